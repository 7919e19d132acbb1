/- For every list of sentences the program's DeskNew gives the reference's desk, leaves the list as it was, and shares no memory with it or with another desk; no condition. -/
import Derived.Test.YtnnaiaiddjkjnaaRows
import Derived.Test.YtnnaiaiddjkjnaaPFnExactDeskNewx6
import Derived.WalkKit
import Derived.ProofKit
import Derived.OpenShut
import Derived.ShutString
import Derived.ChangeOld
import Derived.ChangeSame
import Derived.Below
import Derived.SizedLaws
import Derived.Lib.SmallJoins
import Derived.Deep.Slices
import Derived.Deep.Fields
namespace Go.Proofs.Ytnnaiaiddjkjnaa.Pure
open Go.RowKit Go.Proofs.Ytnnaiaiddjkjnaa.PFnExactDeskNew Go.Proofs.YtnnaiaiddjkjnaaW.PrintWords Go.Proofs.YtnnaiaiddjkjnaaW.PrintLast
set_option linter.unusedVariables false
set_option linter.unusedSimpArgs false
/-! pack arith: numbers that do not wrap, and steps of 'from some number of rounds on' -/
theorem w64 {n : Int} (h0 : -9223372036854775808 ≤ n) (h1 : n ≤ 9223372036854775807) : wrap64 n = n := by unfold wrap64; omega
theorem ev_pos {α : Type} {c : Prop} [Decidable c] {a b : Nat → Option α} {r : α} (h : c) (H : Ev a r) : Ev (fun k => if c then a k else b k) r :=
  Ev.congr (fun _ => if_pos h) H
theorem ev_neg {α : Type} {c : Prop} [Decidable c] {a b : Nat → Option α} {r : α} (h : ¬ c) (H : Ev b r) : Ev (fun k => if c then a k else b k) r :=
  Ev.congr (fun _ => if_neg h) H
theorem ev_now {α : Type} {a r : α} (h : a = r) : Ev (fun _ => some a) r := h ▸ Ev.now a
theorem ev_of {α : Type} {o : Option α} {r : α} (h : o = some r) : Ev (fun _ => o) r := ⟨0, fun _ _ => h⟩
theorem ev_bind {α β : Type} {o : Option α} {f : Nat → α → Option β} {a : α} {r : β} (h : o = some a) (k : Ev (fun n => f n a) r) : Ev (fun n => o.bind (f n)) r :=
  Ev.congr (fun n => by rw [h]; rfl) k
theorem ev_eq {α : Type} {g : Nat → Option α} {r r' : α} (h : r = r') (k : Ev g r) : Ev g r' := h ▸ k

/-! pack wok: which sentences are right -/
def wOk (f o t : Int) : Bool := decide (0 ≤ f ∧ f ≤ 5 ∧ 0 ≤ o ∧ o ≤ 3 ∧ 0 ≤ t ∧ t ≤ 3)
theorem wOk_nat {f o t : Int} (h : wOk f o t = true) : ∃ x y z : Nat, x < 6 ∧ y < 4 ∧ z < 4 ∧ f = x ∧ o = y ∧ t = z := by
  have h := of_decide_eq_true h
  exact ⟨f.toNat, o.toNat, t.toNat, by omega, by omega, by omega, by omega, by omega, by omega⟩
theorem iWeigh (f o t : Int) : impl_isWeigh.f f o t = some (wOk f o t) := by
  unfold impl_isWeigh.f wOk
  simp only [ge_iff_le]
  by_cases h1 : 0 ≤ f <;> by_cases h2 : f ≤ 5 <;> by_cases h3 : 0 ≤ o <;> by_cases h4 : o ≤ 3 <;> by_cases h5 : 0 ≤ t <;> by_cases h6 : t ≤ 3 <;> simp [h1, h2, h3, h4, h5, h6]

/-! pack wokd: which sentences are right by the reference -/
theorem sWeigh (f o t : Int) : spec_WeighOk.f f o t = some (wOk f o t) := by
  unfold spec_WeighOk.f spec_l1In.f wOk
  simp only [ge_iff_le]
  by_cases h1 : 0 ≤ f <;> by_cases h2 : f ≤ 5 <;> by_cases h3 : 0 ≤ o <;> by_cases h4 : o ≤ 3 <;> by_cases h5 : 0 ≤ t <;> by_cases h6 : t ≤ 3 <;> simp [h1, h2, h3, h4, h5, h6]

/-! pack rows: lists of sentences, which of them may lie on a desk -/
def eqS (x y : S25) : Bool := x.f0 == y.f0 && (x.f1 == y.f1 && x.f2 == y.f2)
theorem eqS_comm (x y : S25) : eqS x y = eqS y x := by
  have h (a b : Int) : (a == b) = (b == a) := by rw [Bool.eq_iff_iff, beq_iff_eq, beq_iff_eq]; exact eq_comm
  unfold eqS; rw [h x.f0, h x.f1, h x.f2]
theorem eqS_self (x : S25) : eqS x x = true := by simp [eqS]
theorem rdS_drop (l : List S25) (i : Nat) (h : i < l.length) : l.drop i = rd_T25 l (i : Int) :: l.drop (i + 1) := by
  rw [List.drop_eq_getElem_cons h]
  simp [rd_T25, List.getD_eq_getElem?_getD, List.getElem?_eq_getElem h]
theorem rdS_take (l : List S25) (i j : Nat) (h : j < i) (hi : i ≤ l.length) : (l.take i).drop j = rd_T25 l (j : Int) :: (l.take i).drop (j + 1) := by
  rw [List.drop_eq_getElem_cons (by rw [List.length_take]; omega)]
  simp [rd_T25, List.getD_eq_getElem?_getD, List.getElem?_eq_getElem (show j < l.length by omega)]
theorem say88 (l : List S25) (hl : l.length ≤ 1000000000) (x : S25) : ∀ r i : Nat, i + r = l.length → ∃ v, decide (v ≥ (0 : Int)) = (l.drop i).any (eqS x) ∧ Ev (fun k => impl_Say_88.l0 k l (l.length : Int) (i : Int) x.f0 x.f1 x.f2) v
  | 0, i, h => ⟨-1, by rw [List.drop_of_length_le (by omega)]; rfl, Ev.step (fun _ => impl_Say_88.l0.eq_2 _ _ _ _ _ _ _) (ev_neg (by omega) (ev_now rfl))⟩
  | r + 1, i, h => by
    by_cases he : eqS x (rd_T25 l (i : Int)) = true
    · refine ⟨i, by rw [rdS_drop l i (by omega), List.any_cons, he]; simp, Ev.step (fun _ => impl_Say_88.l0.eq_2 _ _ _ _ _ _ _) ?_⟩
      exact ev_pos (by omega) (ev_pos (by omega) (ev_pos (by omega) (ev_pos he (ev_now rfl))))
    · obtain ⟨v, hv, hE⟩ := say88 l hl x r (i + 1) (by omega)
      refine ⟨v, by rw [rdS_drop l i (by omega), List.any_cons, Bool.eq_false_iff.mpr he, hv]; rfl, Ev.step (fun _ => impl_Say_88.l0.eq_2 _ _ _ _ _ _ _) ?_⟩
      refine ev_pos (by omega) (ev_pos (by omega) (ev_pos (by omega) (ev_neg he ?_)))
      rw [w64 (by omega) (by omega)]; exact hE
theorem say83 (l : List S25) (hl : l.length ≤ 1000000000) (x : S25) : Ev (fun k => impl_Say_83.f k l x.f0 x.f1 x.f2) (l.any (eqS x)) := by
  obtain ⟨v, hv, hE⟩ := say88 l hl x l.length 0 (by omega)
  unfold impl_Say_83.f impl_Say_88.f
  exact Ev.bind hE (ev_now (by simpa using hv))
def rowR (L : List S25) : Nat → Nat → Bool
  | 0, _ => decide (L.length < 6)
  | r + 1, i => wOk (rd_T25 L (i : Int)).f0 (rd_T25 L (i : Int)).f1 (rd_T25 L (i : Int)).f2 && (!((L.take i).any (eqS (rd_T25 L (i : Int)))) && rowR L r (i + 1))
def rowB (L : List S25) : Bool := rowR L L.length 0
theorem areNow_l0 (L : List S25) (hl : L.length ≤ 1000000000) : ∀ r i : Nat, i + r = L.length → Ev (fun k => impl_areNow.l0 k L L (L.length : Int) (i : Int)) (rowR L r i)
  | 0, i, h => Ev.step (fun _ => impl_areNow.l0.eq_2 _ _ _ _ _) (ev_neg (by omega) (ev_now (by unfold rowR; exact decide_eq_decide.mpr (by omega))))
  | r + 1, i, h => by
    refine Ev.step (fun _ => impl_areNow.l0.eq_2 _ _ _ _ _) (ev_pos (by omega) (ev_pos (by omega) (ev_pos (by omega) (ev_bind (iWeigh _ _ _) ?_))))
    unfold rowR
    cases wOk (rd_T25 L (i : Int)).f0 (rd_T25 L (i : Int)).f1 (rd_T25 L (i : Int)).f2 with
    | false => exact ev_neg (by simp) (ev_now rfl)
    | true =>
      refine ev_pos rfl (ev_pos (by omega) ?_)
      rw [Int.toNat_natCast]
      refine Ev.bind (say83 (L.take i) (by rw [List.length_take]; omega) (rd_T25 L (i : Int))) ?_
      cases (L.take i).any (eqS (rd_T25 L (i : Int))) with
      | true => exact ev_pos rfl (ev_now rfl)
      | false =>
        refine ev_neg (by simp) ?_
        rw [w64 (by omega) (by omega)]
        exact areNow_l0 L hl r (i + 1) (by omega)
theorem areNow_ok (L : List S25) (hl : L.length ≤ 1000000000) : Ev (fun k => impl_areNow.f k L) (rowB L) := areNow_l0 L hl L.length 0 (by omega)
theorem l9_l1 (L : List S25) (hl : L.length ≤ 1000000000) (i : Nat) (hi : i < L.length) (res : Bool) (hE : Ev (fun k => spec_l9Row.l0 k L ((i + 1 : Nat) : Int)) res) :
    ∀ q j : Nat, j + q = i → Ev (fun k => spec_l9Row.l1 k L (i : Int) (j : Int)) (!(((L.take i).drop j).any (eqS (rd_T25 L (i : Int)))) && res)
  | 0, j, h => by
    refine Ev.step (fun _ => spec_l9Row.l1.eq_2 _ _ _ _) (ev_neg (by omega) ?_)
    rw [w64 (by omega) (by omega), List.drop_of_length_le (by rw [List.length_take]; omega)]
    exact hE
  | q + 1, j, h => by
    refine Ev.step (fun _ => spec_l9Row.l1.eq_2 _ _ _ _) (ev_pos (by omega) (ev_pos (by omega) (ev_pos (by omega) (ev_pos (by omega) (ev_pos (by omega) ?_)))))
    rw [rdS_take L i j (by omega) (by omega), List.any_cons, eqS_comm (rd_T25 L (i : Int)) (rd_T25 L (j : Int))]
    by_cases he : eqS (rd_T25 L (j : Int)) (rd_T25 L (i : Int)) = true
    · rw [he]; exact ev_pos he (ev_now rfl)
    · rw [Bool.eq_false_iff.mpr he]
      refine ev_neg he ?_
      rw [w64 (by omega) (by omega)]
      exact l9_l1 L hl i hi res hE q (j + 1) (by omega)
theorem l9_l0 (L : List S25) (hl : L.length ≤ 1000000000) : ∀ r i : Nat, i + r = L.length → Ev (fun k => spec_l9Row.l0 k L (i : Int)) (rowR L r i)
  | 0, i, h => Ev.step (fun _ => spec_l9Row.l0.eq_2 _ _ _) (ev_neg (by omega) (ev_now (by unfold rowR; exact decide_eq_decide.mpr (by omega))))
  | r + 1, i, h => by
    refine Ev.step (fun _ => spec_l9Row.l0.eq_2 _ _ _) (ev_pos (by omega) (ev_pos (by omega) (ev_bind (sWeigh _ _ _) ?_)))
    unfold rowR
    cases wOk (rd_T25 L (i : Int)).f0 (rd_T25 L (i : Int)).f1 (rd_T25 L (i : Int)).f2 with
    | false => exact ev_neg (by simp) (ev_now rfl)
    | true => exact ev_pos rfl (l9_l1 L hl i (by omega) _ (l9_l0 L hl r (i + 1) (by omega)) i 0 (by omega))
theorem l9_ok (L : List S25) (hl : L.length ≤ 1000000000) : Ev (fun k => spec_l9Row.f k L) (rowB L) := l9_l0 L hl L.length 0 (by omega)

/-! pack rdl: what lies in a list of lists -/
theorem rdL_drop (l : List (List S25)) (i : Nat) (h : i < l.length) : l.drop i = rd_L2 l (i : Int) :: l.drop (i + 1) := by
  rw [List.drop_eq_getElem_cons h]
  simp [rd_L2, List.getD_eq_getElem?_getD, List.getElem?_eq_getElem h]
theorem rdL_mem (l : List (List S25)) (i : Nat) (h : i < l.length) : rd_L2 l (i : Int) ∈ l := by
  have := rdL_drop l i h
  exact List.mem_of_mem_drop (i := i) (by rw [this]; exact List.mem_cons_self)

/-! pack todesk: a law's desk turned into the program's, and its size -/
def cS (x : S23) : S25 := ⟨x.f0, x.f1, x.f2⟩
theorem rd23_drop (l : List S23) (i : Nat) (h : i < l.length) : l.drop i = rd_T23 l (i : Int) :: l.drop (i + 1) := by
  rw [List.drop_eq_getElem_cons h]
  simp [rd_T23, List.getD_eq_getElem?_getD, List.getElem?_eq_getElem h]
theorem take_set {α : Type} (v : α) : ∀ (l : List α) (i : Nat), i < l.length → (l.set i v).take (i + 1) = l.take i ++ [v]
  | [], i, h => absurd h (by simp)
  | x :: r, 0, h => by simp
  | x :: r, i + 1, h => by simp [take_set v r i (by simpa using h)]
theorem toSayS_l0 (N : List S23) (hN : N.length ≤ 1000000000) : ∀ (r i : Nat) (acc : List S25), i + r = N.length → acc.length = N.length → Ev (fun k => laws_toSayS.l0 k N acc (i : Int)) (acc.take i ++ (N.drop i).map cS)
  | 0, i, acc, h, ha => by
    rw [List.drop_of_length_le (by omega), List.take_of_length_le (by omega)]
    exact Ev.step (fun _ => laws_toSayS.l0.eq_2 _ _ _ _) (ev_neg (by omega) (ev_now (by simp)))
  | r + 1, i, acc, h, ha => by
    refine Ev.step (fun _ => laws_toSayS.l0.eq_2 _ _ _ _) (ev_pos (by omega) (ev_pos (by omega) (ev_bind (a := ((rd_T23 N (i : Int)).f0, (rd_T23 N (i : Int)).f1, (rd_T23 N (i : Int)).f2)) rfl (ev_pos (by omega) ?_))))
    rw [w64 (by omega) (by omega), Int.toNat_natCast]
    refine ev_eq ?_ (toSayS_l0 N hN r (i + 1) _ (by omega) (by rw [List.length_set]; exact ha))
    rw [take_set _ _ _ (by omega), rd23_drop N i (by omega), List.map_cons, List.append_assoc]
    rfl
theorem toSayS_ok (N : List S23) (hN : N.length ≤ 1000000000) : Ev (fun k => laws_toSayS.f k N) (N.map cS) := by
  unfold laws_toSayS.f
  refine ev_pos (by omega) (ev_pos (by omega) ?_)
  rw [Int.toNat_natCast]
  exact ev_eq (by simp) (toSayS_l0 N hN N.length 0 _ (by omega) (by simp))
theorem szSayS_ok (N : List S23) (hN : N.length ≤ maxLen) (v : Int) (h0 : 0 ≤ v) (h1 : v ≤ 1048576) : ∃ u, laws_szSayS.f N v = some u ∧ (u < 0 ∨ (0 ≤ u ∧ u ≤ v ∧ N.length ≤ 1048576)) := by
  have hm : maxLen ≤ 9223372036854775807 := by decide
  unfold laws_szSayS.f
  rw [w64 (n := v - (N.length : Int)) (by omega) (by omega)]
  by_cases h : v - (N.length : Int) < 0
  · exact ⟨-1, by rw [if_pos h], .inl (by omega)⟩
  · exact ⟨_, by rw [if_neg h], .inr ⟨by omega, by omega, by omega⟩⟩

/-! pack eqdesk: a desk is the same as itself -/
theorem eqSayS_l0 (L : List S25) (hl : L.length ≤ 1000000000) : ∀ r i : Nat, i + r = L.length → Ev (fun k => laws_eqSayS.l0 k L L (i : Int)) true
  | 0, i, h => Ev.step (fun _ => laws_eqSayS.l0.eq_2 _ _ _ _) (ev_neg (by omega) (ev_now rfl))
  | r + 1, i, h => by
    refine Ev.step (fun _ => laws_eqSayS.l0.eq_2 _ _ _ _) (ev_pos (by omega) (ev_pos (by omega) (ev_pos (by omega) (ev_bind (a := true) (by unfold laws_eqSay.f; simp) (ev_pos rfl ?_)))))
    rw [w64 (by omega) (by omega)]
    exact eqSayS_l0 L hl r (i + 1) (by omega)
theorem eqSayS_self (L : List S25) (hl : L.length ≤ 1000000000) : Ev (fun k => laws_eqSayS.f k L L) true := by
  unfold laws_eqSayS.f
  exact ev_pos rfl (eqSayS_l0 L hl L.length 0 (by omega))
theorem eqSaySS_l0 (P : List (List S25)) (hP : P.length ≤ 1000000000) (hp : ∀ x ∈ P, x.length ≤ 1000000000) : ∀ r i : Nat, i + r = P.length → Ev (fun k => laws_eqSaySS.l0 k P P (i : Int)) true
  | 0, i, h => Ev.step (fun _ => laws_eqSaySS.l0.eq_2 _ _ _ _) (ev_neg (by omega) (ev_now rfl))
  | r + 1, i, h => by
    refine Ev.step (fun _ => laws_eqSaySS.l0.eq_2 _ _ _ _) (ev_pos (by omega) (ev_pos (by omega) (ev_pos (by omega) (Ev.bind (eqSayS_self _ (hp _ (rdL_mem P i (by omega)))) (ev_pos rfl ?_)))))
    rw [w64 (by omega) (by omega)]
    exact eqSaySS_l0 P hP hp r (i + 1) (by omega)
theorem eqDesk_self (N : List S25) (P : List (List S25)) (hN : N.length ≤ 1000000000) (hP : P.length ≤ 1000000000) (hp : ∀ x ∈ P, x.length ≤ 1000000000) : Ev (fun k => laws_eqDesk.f k N P N P) true := by
  unfold laws_eqDesk.f
  refine Ev.bind (eqSayS_self N hN) (ev_pos rfl (Ev.bind (a := true) ?_ (ev_pos rfl (ev_now rfl))))
  unfold laws_eqSaySS.f
  exact ev_pos rfl (eqSaySS_l0 P hP hp P.length 0 (by omega))

/-! pack mark: the marks that an exactness law lays into a list, and finds there again -/
def marks : Int → Nat → List S25
  | _, 0 => []
  | v, r + 1 => ⟨v, v + 1, v + 1 + 1⟩ :: marks (v + 1 + 1 + 1) r
theorem marks_len : ∀ (r : Nat) (v : Int), (marks v r).length = r
  | 0, _ => rfl
  | r + 1, v => by unfold marks; rw [List.length_cons, marks_len r]
theorem rdS_set (l : List S25) (i : Nat) (x : S25) (h : i < l.length) : rd_T25 (l.set i x) (i : Int) = x := by
  simp [rd_T25, List.getD_eq_getElem?_getD, List.getElem?_set, h]
theorem markS_l0 : ∀ (r i : Nat) (acc : List S25) (v : Int), i + r = acc.length → acc.length ≤ 1000000000 → 0 ≤ v → v + 3 * r ≤ 1000000000000 → Ev (fun k => laws_markSayS.l0 k acc v (i : Int)) (v + 3 * r, acc.take i ++ marks v r)
  | 0, i, acc, v, h, hl, h0, h1 => Ev.step (fun _ => laws_markSayS.l0.eq_2 _ _ _ _) (ev_neg (by omega) (ev_now (by rw [List.take_of_length_le (by omega)]; simp [marks])))
  | r + 1, i, acc, v, h, hl, h0, h1 => by
    have w1 : wrap64 (v + 1) = v + 1 := w64 (by omega) (by omega)
    have w2 : wrap64 (v + 1 + 1) = v + 1 + 1 := w64 (by omega) (by omega)
    have w3 : wrap64 (v + 1 + 1 + 1) = v + 1 + 1 + 1 := w64 (by omega) (by omega)
    have w4 : wrap64 ((i : Int) + 1) = ((i + 1 : Nat) : Int) := by rw [w64 (by omega) (by omega)]; omega
    refine Ev.step (fun _ => laws_markSayS.l0.eq_2 _ _ _ _) (ev_pos (by omega) (ev_pos (by omega) (ev_bind rfl (ev_bind rfl ?_))))
    simp only [w1, w2, w3, w4, Int.toNat_natCast]
    rw [rdS_set acc i _ (by omega), rdS_set (acc.set i _) i _ (by rw [List.length_set]; omega), List.set_set, List.set_set]
    refine ev_eq ?_ (markS_l0 r (i + 1) (acc.set i ⟨v, v + 1, v + 1 + 1⟩) (v + 1 + 1 + 1) (by rw [List.length_set]; omega) (by rw [List.length_set]; omega) (by omega) (by omega))
    rw [take_set _ _ _ (by omega), List.append_assoc]
    refine Prod.ext ?_ rfl
    show v + 1 + 1 + 1 + 3 * (r : Int) = v + 3 * ((r + 1 : Nat) : Int)
    omega
theorem markS_ok (L : List S25) (hl : L.length ≤ 1048576) (v : Int) (h0 : 0 ≤ v) (h1 : v ≤ 1000000000) : Ev (fun k => laws_markSayS.f k L v) (v + 3 * L.length, marks v L.length) := by
  unfold laws_markSayS.f
  exact ev_eq (by simp) (markS_l0 L.length 0 L v (by omega) (by omega) h0 (by omega))
theorem heldS_l0 (M : List S25) : ∀ (r i : Nat) (v : Int), i + r = M.length → M.length ≤ 1000000000 → M.drop i = marks v r → 0 ≤ v → v + 3 * r ≤ 1000000000000 → Ev (fun k => laws_heldSayS.l0 k M v (i : Int)) (v + 3 * r)
  | 0, i, v, h, hl, hd, h0, h1 => Ev.step (fun _ => laws_heldSayS.l0.eq_2 _ _ _ _) (ev_neg (by omega) (ev_now (by simp)))
  | r + 1, i, v, h, hl, hd, h0, h1 => by
    have w1 : wrap64 (v + 1) = v + 1 := w64 (by omega) (by omega)
    have w2 : wrap64 (v + 1 + 1) = v + 1 + 1 := w64 (by omega) (by omega)
    have w3 : wrap64 (v + 1 + 1 + 1) = v + 1 + 1 + 1 := w64 (by omega) (by omega)
    have w4 : wrap64 ((i : Int) + 1) = ((i + 1 : Nat) : Int) := by rw [w64 (by omega) (by omega)]; omega
    rw [rdS_drop M i (by omega)] at hd
    unfold marks at hd
    obtain ⟨hx, hr⟩ := List.cons.inj hd
    refine Ev.step (fun _ => laws_heldSayS.l0.eq_2 _ _ _ _) (ev_pos (by omega) (ev_pos (by omega) ?_))
    simp only [w1, w2, w3, w4, hx]
    refine ev_pos trivial (ev_pos trivial (ev_pos trivial ?_))
    refine ev_eq ?_ (heldS_l0 M r (i + 1) (v + 1 + 1 + 1) (by omega) hl hr (by omega) (by omega))
    omega
theorem heldS_ok (n : Nat) (hl : n ≤ 1048576) (v : Int) (h0 : 0 ≤ v) (h1 : v ≤ 1000000000) : Ev (fun k => laws_heldSayS.f k (marks v n) v) (v + 3 * n) := by
  unfold laws_heldSayS.f
  exact heldS_l0 (marks v n) n 0 v (by rw [marks_len]; omega) (by rw [marks_len]; omega) rfl h0 (by omega)

section
open Go.ChangeShapes Go.WideShapes Go.Deep
variable {H : Type} {enc : TypeId × Value → H} {P : Program} {w : World} {base : Nat} {spare : Nat → Bool} {held : Bool} {α β γ : Type}
/-- Whatever is trodden at type t is, read, of kind d, and fulfils Q. -/
def Opens (enc : TypeId × Value → H) (P : Program) (w : World) (base : Nat) (spare : Nat → Bool) (held : Bool) (t : TypeId) (d : Kd α) (Q : α → Prop) : Prop :=
  ∀ (fuel : Nat) (cs : List Value) (x : DataW H × List MemPlace), DataW.trod enc P w base spare held fuel t cs = some x → ∃ a, d.K w a cs ∧ Q a
theorem opens_int {t : TypeId} {k : IntKind} (ht : P.underlying t = some (.int k)) : Opens enc P w base spare held t (Kd.int k) (fun n => (Lit.int k n).wf = true) := fun fuel cs x h => by
  obtain ⟨n, rfl, _, hw⟩ := DataW.trod_int ht h
  exact ⟨n, rfl, hw⟩
theorem opens_string {t : TypeId} (ht : P.underlying t = some .string) : Opens enc P w base spare held t Kd.string (fun s => s.size ≤ maxLen) := fun fuel cs x h => by
  obtain ⟨n, rfl, _, hw⟩ := DataW.trod_string ht h
  exact ⟨n, rfl, hw⟩
theorem opens_list {Φ : Nat → α → Prop} : ∀ n : Nat, (∀ i, i < n → ∃ p, Φ i p) → ∃ ps : List α, ps.length = n ∧ ∀ j p, ps[j]? = some p → Φ j p
  | 0, _ => ⟨[], rfl, fun j p h => by simp at h⟩
  | n + 1, h => by
    obtain ⟨ps, hl, hp⟩ := opens_list n (fun i hi => h i (by omega))
    obtain ⟨p, hpn⟩ := h n (by omega)
    refine ⟨ps ++ [p], by rw [List.length_append, hl]; rfl, fun j q hq => ?_⟩
    rcases Nat.lt_or_ge j n with hj | hj
    · rw [List.getElem?_append_left (by omega)] at hq; exact hp j q hq
    · rw [List.getElem?_append_right (by omega)] at hq
      have : j - ps.length = 0 := by
        rcases Nat.eq_zero_or_pos (j - ps.length) with h0 | h0
        · exact h0
        · rw [List.getElem?_eq_none (by simp; omega)] at hq; cases hq
      rw [this] at hq
      obtain rfl : p = q := by simpa using hq
      rw [show j = n by omega]; exact hpn
theorem opens_slice {t e te : TypeId} {d : Kd α} {Q : α → Prop} (ht : P.underlying t = some (.slice e)) (hc : P.cellsOf e = d.sz) (he : Opens enc P w base spare held e d Q) :
    Opens enc P w base spare held t (Kd.slice te d) (fun xs => xs.length ≤ maxLen ∧ ∀ x ∈ xs, Q x) := fun fuel cs x h => by
  rcases open_slice ht h with ⟨rfl, _⟩ | ⟨a, len, cap, m, n, D, Pl, rfl, hb, hl, hm, hmm, hx, hi⟩
  · exact ⟨[], ⟨none, 0, rfl, Nat.le_refl _, ⟨rfl, by simp, fun h => absurd h (by simp)⟩⟩, by simp [maxLen], by simp⟩
  · have hle : len ≤ m := by rw [hmm]; split <;> omega
    obtain ⟨ps, hpl, hps⟩ := opens_list (Φ := fun i p => (∃ c : List Value, c.length = d.sz ∧ d.K w p c ∧ ∀ j u, c[j]? = some u → w.cell? (a.add (i * d.sz + j)) = some u) ∧ Q p) len (fun i hil => by
      obtain ⟨cs', h1, h2⟩ := hi i (by omega)
      obtain ⟨p, hk, hq⟩ := he _ _ _ h2
      rw [hc] at h1
      obtain ⟨_, hcl, hat⟩ := World.cells?_some h1
      refine ⟨p, ⟨cs', hcl, hk, fun j u hu => ?_⟩, hq⟩
      have hj : j < d.sz := by rw [← hcl]; exact (List.getElem?_eq_some_iff.1 hu).1
      rw [← Go.Deep.add_add, hat j hj, hu])
    have hmax : maxLen ≤ 9223372036854775807 := by decide
    refine ⟨ps, ⟨some a, cap, by rw [hpl], by omega, ⟨rfl, by omega, fun _ => ⟨a, rfl, fun j p hp => (hps j p hp).1⟩⟩⟩, by omega, fun x hx => ?_⟩
    obtain ⟨j, hj⟩ := List.getElem?_of_mem hx
    exact (hps j x hj).2
theorem opens_struct2 {t : TypeId} {f0 f1 : Field} {d0 : Kd α} {d1 : Kd β} {g : γ → α × β} {mk : α → β → γ} {Q0 : α → Prop} {Q1 : β → Prop} (hs : P.underlying t = some (.struct #[f0, f1]))
    (ho0 : f0.offset = 0) (ho1 : f1.offset = d0.sz) (hc0 : P.cellsOf f0.type = d0.sz) (hc1 : P.cellsOf f1.type = d1.sz) (hct : P.cellsOf t = d0.sz + d1.sz) (hg : ∀ a b, g (mk a b) = (a, b))
    (h0 : Opens enc P w base spare held f0.type d0 Q0) (h1 : Opens enc P w base spare held f1.type d1 Q1) :
    Opens enc P w base spare held t (Kd.iso (Kd.pair d0 d1) g) (fun x => Q0 (g x).1 ∧ Q1 (g x).2) := fun fuel cs x h => by
  obtain ⟨xs, n, _, hx, hlen, hxl, hf⟩ := DataW.trod_struct hs h
  have e0 := hf 0 f0 rfl
  have e1 := hf 1 f1 rfl
  match xs, hxl with
  | [y0, y1], _ =>
    obtain ⟨a, ka, qa⟩ := h0 _ _ _ e0
    obtain ⟨b, kb, qb⟩ := h1 _ _ _ e1
    refine ⟨mk a b, ?_, by show Q0 (g (mk a b)).1 ∧ Q1 (g (mk a b)).2; rw [hg]; exact ⟨qa, qb⟩⟩
    show (Kd.pair d0 d1).K w (g (mk a b)) cs
    rw [hg]
    rw [ho0, hc0, List.drop_zero] at ka
    rw [ho1, hc1, List.take_of_length_le (by rw [List.length_drop]; omega)] at kb
    exact ⟨_, _, (List.take_append_drop d0.sz cs).symm, ka, kb⟩
theorem opens_struct3 {δ : Type} {t : TypeId} {f0 f1 f2 : Field} {d0 : Kd α} {d1 : Kd β} {d2 : Kd γ} {g : δ → α × (β × γ)} {mk : α → β → γ → δ} {Q0 : α → Prop} {Q1 : β → Prop} {Q2 : γ → Prop} (hs : P.underlying t = some (.struct #[f0, f1, f2]))
    (ho0 : f0.offset = 0) (ho1 : f1.offset = d0.sz) (ho2 : f2.offset = d0.sz + d1.sz) (hc0 : P.cellsOf f0.type = d0.sz) (hc1 : P.cellsOf f1.type = d1.sz) (hc2 : P.cellsOf f2.type = d2.sz) (hct : P.cellsOf t = d0.sz + d1.sz + d2.sz) (hg : ∀ a b c, g (mk a b c) = (a, (b, c)))
    (h0 : Opens enc P w base spare held f0.type d0 Q0) (h1 : Opens enc P w base spare held f1.type d1 Q1) (h2 : Opens enc P w base spare held f2.type d2 Q2) :
    Opens enc P w base spare held t (Kd.iso (Kd.pair d0 (Kd.pair d1 d2)) g) (fun x => Q0 (g x).1 ∧ Q1 (g x).2.1 ∧ Q2 (g x).2.2) := fun fuel cs x h => by
  obtain ⟨xs, n, _, hx, hlen, hxl, hf⟩ := DataW.trod_struct hs h
  have e0 := hf 0 f0 rfl
  have e1 := hf 1 f1 rfl
  have e2 := hf 2 f2 rfl
  match xs, hxl with
  | [y0, y1, y2], _ =>
    obtain ⟨a, ka, qa⟩ := h0 _ _ _ e0
    obtain ⟨b, kb, qb⟩ := h1 _ _ _ e1
    obtain ⟨c, kc, qc⟩ := h2 _ _ _ e2
    refine ⟨mk a b c, ?_, by show Q0 (g (mk a b c)).1 ∧ Q1 (g (mk a b c)).2.1 ∧ Q2 (g (mk a b c)).2.2; rw [hg]; exact ⟨qa, qb, qc⟩⟩
    show (Kd.pair d0 (Kd.pair d1 d2)).K w (g (mk a b c)) cs
    rw [hg]
    rw [ho0, hc0, List.drop_zero] at ka
    rw [ho1, hc1] at kb
    rw [ho2, hc2, List.take_of_length_le (by rw [List.length_drop]; omega)] at kc
    refine ⟨_, _, (List.take_append_drop d0.sz cs).symm, ka, _, _, (List.take_append_drop d1.sz _).symm, kb, ?_⟩
    rw [List.drop_drop]
    first | exact kc | (rw [Nat.add_comm]; exact kc)
theorem opens_arg {t : TypeId} {fs : Array Field} {r : Reach} {b0 : Nat} {v : Value} {dd : DataW H} {p : List MemPlace} {d : Kd α} {Q : α → Prop} (hs : P.underlying t = some (.struct fs)) (hv : Value.okWide P w r b0 t v) (h : DataW.Trod enc P w base spare held t v dd p)
    (ho : Opens enc P w base spare held t d Q) : ∃ (l : List Value) (a : α), v = .agg ⟨l⟩ ∧ d.K w a l ∧ Q a := by
  obtain ⟨cs, rfl, hsz⟩ := okWide_struct hs hv
  obtain ⟨l⟩ := cs
  obtain ⟨fuel, hf⟩ := h
  obtain ⟨a, hk, hq⟩ := ho _ _ _ hf
  exact ⟨l, a, rfl, by simpa [Value.cells] using hk, hq⟩
end

theorem iNew (L : List S25) (hl : L.length ≤ 1000000000) : Ev (fun k => impl_DeskNew.f k L) (if rowB L = true then L else [], []) := by
  unfold impl_DeskNew.f
  refine Ev.bind (areNow_ok L hl) ?_
  cases rowB L with
  | true => exact ev_pos rfl (ev_bind rfl (ev_pos (by simp; omega) (ev_now rfl)))
  | false => exact ev_neg (by simp) (ev_now rfl)
theorem sNew (L : List S25) (hl : L.length ≤ 1000000000) : Ev (fun k => spec_DeskNew.f k L) (if rowB L = true then L else [], []) := by
  unfold spec_DeskNew.f
  refine Ev.bind (l9_ok L hl) ?_
  cases rowB L with
  | true => exact ev_pos rfl (ev_bind rfl (ev_pos (by simp; omega) (ev_now rfl)))
  | false => exact ev_neg (by simp) (ev_now rfl)
theorem heldD (n : Nat) (hl : n ≤ 1048576) : Ev (fun k => laws_heldDesk.f k (marks 1 n) [] 1) (1 + 3 * n) := by
  unfold laws_heldDesk.f
  refine Ev.bind (heldS_ok n hl 1 (by omega) (by omega)) (ev_neg (by omega) (Ev.bind (a := (1 + 3 * (n : Int))) ?_ (ev_neg (by omega) (ev_now rfl))))
  unfold laws_heldSaySS.f
  exact Ev.step (fun _ => laws_heldSaySS.l0.eq_2 _ _ _ _) (ev_neg (by simp) (ev_now rfl))
theorem FnExactDeskNew (N : List S23) (hN : N.length ≤ maxLen) : ∃ k, laws_FnExactDeskNew.f k N = some true := by
  refine Ev.rounds (g := fun k => laws_FnExactDeskNew.f k N) ?_
  unfold laws_FnExactDeskNew.f
  obtain ⟨u, hu, hc⟩ := szSayS_ok N hN 1048576 (by omega) (by omega)
  by_cases hn : u < 0
  · exact ev_bind hu (ev_pos hn (ev_now rfl))
  · obtain ⟨_, _, c2⟩ := hc.resolve_left hn
    have hT := toSayS_ok N (by omega)
    have hl : (N.map cS).length ≤ 1000000000 := by rw [List.length_map]; omega
    generalize hL : N.map cS = L at *
    have hl2 : L.length ≤ 1048576 := by rw [← hL, List.length_map]; exact c2
    have hX : (if rowB L = true then L else []).length ≤ 1048576 := by by_cases hr : rowB L = true; (rw [if_pos hr]; exact hl2); (rw [if_neg hr]; simp)
    have hI := iNew L hl
    have hS := sNew L hl
    generalize (if rowB L = true then L else []) = X at *
    have hE := eqDesk_self X [] (by omega) (by simp) (by simp)
    refine ev_bind hu (ev_neg hn (Ev.bind hT (Ev.bind hS (Ev.bind hT (Ev.bind hI (Ev.bind hE (ev_pos rfl (Ev.bind hT (Ev.bind (eqSayS_self L hl) (ev_pos rfl (Ev.bind (markS_ok L hl2 1 (by omega) (by omega)) (ev_neg (by omega) (Ev.bind hE ?_)))))))))))))
    refine Ev.step (fun _ => laws_FnExactDeskNew.j0.eq_2 _ _ _ _ _ _ _) (ev_neg (by simp) ?_)
    have hM : Ev (fun k => laws_markDesk.f k X [] 1) (1 + 3 * (X.length : Int), marks 1 X.length) := by
      unfold laws_markDesk.f
      exact Ev.bind (markS_ok X hX 1 (by omega) (by omega)) (ev_bind rfl (ev_now rfl))
    have hH := heldD X.length hX
    exact Ev.bind hM (Ev.bind hH (ev_neg (by omega) (ev_pos rfl (Ev.bind hT (Ev.bind hI (Ev.bind hE (ev_pos rfl (Ev.bind hH (ev_neg (by omega) (ev_pos rfl (ev_now rfl)))))))))))

end Go.Proofs.Ytnnaiaiddjkjnaa.Pure
namespace Go.Proofs.Ytnnaiaiddjkjnaa.fnExactDeskNew
open Go.ChangeShapes Go.WideShapes Go.ChangeAt Go.RowKit Go.Proofs.Ytnnaiaiddjkjnaa.Pure Go.Proofs.Ytnnaiaiddjkjnaa.PFnExactDeskNew Go.Proofs.YtnnaiaiddjkjnaaW.PrintWords
set_option linter.unusedVariables false
theorem own : ownKnob Try.prog.godebug = none := by kernel_rfl
theorem laidOut : laidOutB Try.prog = true := by kernel_rfl
theorem opensSay {H : Type} (enc : TypeId × Value → H) (w : World) (base : Nat) (spare : Nat → Bool) (held : Bool) : Opens enc Try.prog w base spare held 23 k23 (fun _ => True) := fun fuel cs x h => by
  obtain ⟨a, hk, _⟩ := opens_struct3 (g := fun x : S23 => (x.f0, x.f1, x.f2)) (mk := fun a b c => (⟨a, b, c⟩ : S23)) (d0 := Kd.int .i64) (d1 := Kd.int .i64) (d2 := Kd.int .i64) Try.underlying23 rfl rfl rfl (by kernel_rfl) (by kernel_rfl) (by kernel_rfl) (by kernel_rfl) (fun _ _ _ => rfl) (opens_int Try.underlying3) (opens_int Try.underlying3) (opens_int Try.underlying3) fuel cs x h
  exact ⟨a, hk, trivial⟩
set_option maxRecDepth 100000 in
theorem lifted (os : Os) (started : os.Started) (H : Type) (enc : TypeId × Value → H) :
    ReturnsInHanded {} Try.checked os 9 .any (Rows.fnExactDeskNewSpec.pre6 enc Try.prog Try.f9 Rows.fnExactDeskNewRow.domain false) (Rows.fnExactDeskNewSpec.post enc Try.prog Try.f9 false true false false) := by
  refine returnsInHanded_of_change_sized (C := Try.checked) own started (by kernel_rfl) Try.func9
    (ChangeSpec.witness6 (enc := enc) (C := Try.checked) false ⟨#[], #[.slice none 0 0], []⟩ 8 (by kernel_rfl) (by kernel_rfl) (by kernel_rfl) (by kernel_rfl)) ?_
  intro W base args ds gs before hval0 hW _ _ _
  have hval : ∀ (j : Nat) t v, Try.f9.params[j]? = some t → args[j]? = some v → Value.okWide Try.prog W .any base t v := hval0
  have hW' := hW
  obtain ⟨p, q, hA0, hV, rfl, hfz, hnd⟩ := hW
  have hA : DataW.TrodAll enc Try.prog W 0 (fun _ => true) true Try.f9.params.toList args.toList ds p := hA0
  rw [Try.params9] at hA hval
  obtain ⟨v0, vs0, d0, ds0, p0, q0, hargs, rfl, rfl, h0, r0⟩ := trodAll_cons hA
  obtain ⟨rfl, rfl, rfl⟩ := trodAll_nil r0
  obtain rfl : args = #[v0] := by cases args; simp_all
  obtain ⟨rfl, rfl⟩ := trodVars_none hV
  have k0 := h0
  have lt0 : ∀ x ∈ p0, x.block < W.heap.size := by obtain ⟨m, hm⟩ := k0; exact DataW.trod_lt m _ _ _ hm
  obtain ⟨a0, len0, cap0, rfl⟩ := okWide_slice Try.underlying47 (hval 0 47 v0 rfl rfl)
  obtain ⟨fuel, hf⟩ := h0
  obtain ⟨N, ⟨A0, n0, hcs, hc0, hr0⟩, qN, _⟩ := opens_slice (te := 23) Try.underlying47 (by kernel_rfl) (opensSay enc W 0 (fun _ => true) true) _ _ _ hf
  simp [Value.cells] at hcs
  obtain ⟨rfl, rfl, rfl⟩ := hcs
  clear hA0 hval0
  obtain ⟨k, hk⟩ := Pure.FnExactDeskNew N qN
  refine (PFnExactDeskNew.laws_FnExactDeskNew.calls k a0 cap0 N true W hr0 hc0 hk).mono fun e W' ⟨he, bel⟩ => ?_
  subst he
  exact ⟨_, rfl, _, _, _, [], _, [], hW', trodAll_mk1 (shut_bool Try.underlying4 _), (trodAll_cons_mk (Below.trod laidOut (by kernel_rfl) (of_decide_eq_true (by kernel_rfl)) k0 bel lt0) trodAll_mk0), rfl, bel.frame _, fun h => by cases h⟩
theorem over : Rows.fnExactDeskNewRow.holds Try.pinned (OpenSpec.ofChange Rows.fnExactDeskNewSpec) :=
  OpenClaim.holds_of_wide 9 Try.f9 rfl rfl rfl rfl rfl rfl rfl ⟨rfl, rfl, rfl, rfl, rfl⟩ rfl rfl rfl rfl rfl (by kernel_rfl) Try.func9 (by kernel_rfl)
    (of_decide_eq_true (by kernel_rfl)) (by unfold Func.isWrapper; first | (rw [if_pos (by decide +kernel)]; kernel_rfl) | (rw [if_neg (by decide +kernel)]; exact ⟨rfl, rfl⟩))
    (fun os started H enc _ => lifted os started H enc)
theorem proved : Rows.FnExactDeskNewSaid := over
end Go.Proofs.Ytnnaiaiddjkjnaa.fnExactDeskNew
namespace Go.Proofs.Ytnnaiaiddjkjnaa
/-- The row, under a short name, for the claim. -/
theorem fnExactDeskNew_holds : Rows.FnExactDeskNewSaid := fnExactDeskNew.proved
end Go.Proofs.Ytnnaiaiddjkjnaa
