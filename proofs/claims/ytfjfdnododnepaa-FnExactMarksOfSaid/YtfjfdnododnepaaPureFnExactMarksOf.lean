/- For every text the program's MarksOf returns what the reference's returns; no condition. -/
import Derived.Test.YtfjfdnododnepaaPFnExactMarksOfx10
namespace Go.Proofs.Ytfjfdnododnepaa.Pure
open Go.RowKit Go.Proofs.Ytfjfdnododnepaa.PFnExactMarksOf Go.Proofs.YtfjfdnododnepaaW.PrintWords Go.Proofs.YtfjfdnododnepaaW.PrintLast
set_option linter.unusedVariables false
set_option linter.unusedSimpArgs false

/-! pack arith: numbers that do not wrap, and steps of 'from some number of rounds on' -/
theorem w64 {n : Int} (h0 : -9223372036854775808 ≤ n) (h1 : n ≤ 9223372036854775807) : wrap64 n = n := by unfold wrap64; omega
theorem ev_pos {α : Type} {c : Prop} [Decidable c] {a b : Nat → Option α} {r : α} (h : c) (H : Ev a r) : Ev (fun k => if c then a k else b k) r :=
  Ev.congr (fun _ => if_pos h) H
theorem ev_neg {α : Type} {c : Prop} [Decidable c] {a b : Nat → Option α} {r : α} (h : ¬ c) (H : Ev b r) : Ev (fun k => if c then a k else b k) r :=
  Ev.congr (fun _ => if_neg h) H
theorem ev_now {α : Type} {a r : α} (h : a = r) : Ev (fun _ => some a) r := h ▸ Ev.now a
theorem ev_of {α : Type} {o : Option α} {r : α} (h : o = some r) : Ev (fun _ => o) r := ⟨0, fun _ _ => h⟩
theorem ev_bind {α β : Type} {o : Option α} {f : Nat → α → Option β} {a : α} {r : β} (h : o = some a) (k : Ev (fun n => f n a) r) : Ev (fun n => o.bind (f n)) r :=
  Ev.congr (fun n => by rw [h]; rfl) k
theorem ev_eq {α : Type} {g : Nat → Option α} {r r' : α} (h : r = r') (k : Ev g r) : Ev g r' := h ▸ k

/-! pack sread: what the reference's reader says of a sentence -/
theorem sread {L : List Int} {s : ByteArray} {p : PT} (sg : Int) (h0 : -1 ≤ sg) (h1 : sg ≤ 1) (h : pread s = some p) (hL : setsOk L = true) : spec_l7Read.f L s 0 sg [] = some (truv L p, sgns sg p, (s.size : Int)) := by
  obtain ⟨_, _, h80, hp⟩ := psent_top h
  unfold spec_l7Read.f
  rw [if_pos ⟨hL, rfl, h0, h1, by omega, by simp⟩, hp]
  rfl

/-! pack sentmarks: the reference's text of the signs of a sentence -/
def way3 (x : Int) : Prop := x = -1 ∨ x = 0 ∨ x = 1
theorem way3_neg {w : Int} (h : way3 w) : way3 (-w) := by unfold way3 at h ⊢; omega
theorem way3_sig {w f : Int} (h : way3 w) (hf : f = -1 ∨ f = 0 ∨ f = 1) : way3 (w * f) := by
  rcases h with rfl | rfl | rfl <;> rcases hf with rfl | rfl | rfl <;> unfold way3 <;> decide
theorem sgn_way {p : PT} (h : SetT p) : ∀ w : Int, way3 w → ∀ x ∈ sgn w p, way3 x := by
  induction h with
  | leaf => intro w hw x hx; simp only [sgn, List.mem_singleton] at hx; rw [hx]; exact hw
  | one _ ih => intro w hw; exact ih (-w) (way3_neg hw)
  | two _ _ _ ih1 ih2 =>
    intro w hw x hx
    simp only [sgn, List.mem_append] at hx
    exact hx.elim (ih1 w hw x) (ih2 w hw x)
theorem sgns_way {p : PT} (h : SentT p) : ∀ w : Int, way3 w → ∀ x ∈ sgns w p, way3 x := by
  induction h with
  | one _ ih => intro w hw; exact ih (-w) (way3_neg hw)
  | two _ _ _ ih1 ih2 =>
    intro w hw x hx
    simp only [sgns, List.mem_append] at hx
    exact hx.elim (ih1 w hw x) (ih2 w hw x)
  | tri _ _ h1 h2 =>
    intro w hw x hx
    simp only [sgns, List.mem_append] at hx
    exact hx.elim (sgn_way h1 _ (way3_sig hw (sig_range _ _)) x) (sgn_way h2 _ (way3_sig hw (sig_range _ _)) x)
theorem rdmem {l : List Int} {i : Int} (h0 : 0 ≤ i) (h1 : i < (l.length : Int)) : rd l i ∈ l := by
  unfold rd
  rw [List.getD_eq_getElem?_getD, List.getElem?_eq_getElem (by omega)]
  exact List.getElem_mem _
theorem mtx_one (l : List Int) (x : Int) : mtx (l ++ [x]) = mtx l ++ ⟨#[mch x]⟩ := by rw [← mtx_append]; rfl
theorem marks_loop (l : List Int) (hw : ∀ x ∈ l, way3 x) (hl : l.length ≤ 1000000) (d : Nat) : ∀ i : Nat, i + d = l.length → Ev (fun k => spec_MarksOf.l0 k l (mtx (l.take i)) i) (mtx l) := by
  induction d with
  | zero =>
    intro i hi
    refine Ev.step (fun _ => spec_MarksOf.l0.eq_2 _ _ _ _) (ev_neg (by omega) (ev_now ?_))
    rw [List.take_of_length_le (by omega)]
  | succ d ih =>
    intro i hi
    refine Ev.step (fun _ => spec_MarksOf.l0.eq_2 _ _ _ _) (ev_pos (by omega) (ev_bind rfl (ev_pos (by omega) ?_)))
    have hx := hw _ (rdmem (l := l) (i := (i : Int)) (by omega) (by omega))
    have ht : l.take (i + 1) = l.take i ++ [rd l (i : Int)] := by
      rw [List.take_succ_eq_append_getElem (by omega)]
      unfold rd
      rw [Int.toNat_natCast, List.getD_eq_getElem?_getD, List.getElem?_eq_getElem (by omega)]
      rfl
    have hn := ih (i + 1) (by omega)
    rw [ht, mtx_one] at hn
    have hsz : (mtx (l.take i)).size ≤ 1000000 := by rw [mtx_size, List.length_take]; omega
    obtain ⟨X, hX⟩ : ∃ X, rd l (i : Int) = X := ⟨_, rfl⟩
    rw [hX] at hx hn ⊢
    rcases hx with rfl | rfl | rfl
    · rw [show wrap64 (-1 + 1) = 0 by unfold wrap64; omega]
      refine ev_pos (by decide) (ev_pos (by decide) (ev_pos ?_ ?_))
      · show (mtx (l.take i)).size + 1 ≤ _; omega
      · rw [w64 (by omega) (by omega)]; exact hn
    · rw [show wrap64 (0 + 1) = 1 by unfold wrap64; omega]
      refine ev_pos (by decide) (ev_pos (by decide) (ev_pos ?_ ?_))
      · show (mtx (l.take i)).size + 1 ≤ _; omega
      · rw [w64 (by omega) (by omega)]; exact hn
    · rw [show wrap64 (1 + 1) = 2 by unfold wrap64; omega]
      refine ev_pos (by decide) (ev_pos (by decide) (ev_pos ?_ ?_))
      · show (mtx (l.take i)).size + 1 ≤ _; omega
      · rw [w64 (by omega) (by omega)]; exact hn
/-- the signs of a text that is a sentence -/
def markM (s : ByteArray) : ByteArray := match pread s with | none => ⟨#[]⟩ | some p => mtx (sgns 1 p)
theorem imarks (s : ByteArray) : impl_MarksOf.f s = some (markM s) := rfl
theorem smarks (s : ByteArray) (hs : s.size ≤ 17000000000000) : Ev (fun k => spec_MarksOf.f k s) (markM s) := by
  unfold spec_MarksOf.f
  have hk : spec_SentenceOk.f s = some (pread s).isSome := by unfold spec_SentenceOk.f; rw [if_pos hs]
  refine ev_bind hk ?_
  unfold markM
  cases hp : pread s with
  | none => exact ev_neg (by simp) (ev_now rfl)
  | some p =>
    obtain ⟨ht, hl, _, _⟩ := psent_top hp
    refine ev_pos rfl (ev_bind (sread 1 (by decide) (by decide) hp (by decide)) ?_)
    have hlen : (sgns 1 p).length ≤ 1000000 := by rw [sgns_len _ ht]; omega
    exact marks_loop (sgns 1 p) (sgns_way ht 1 (by unfold way3; omega)) hlen (sgns 1 p).length 0 (by omega)

theorem FnExactMarksOf : laws_FnExactMarksOf.Pure := by
  intro a0 _
  refine Ev.rounds (g := fun k => laws_FnExactMarksOf.f k a0) ?_
  unfold laws_FnExactMarksOf.f
  by_cases h : (a0.size : Int) > 1048576
  · exact ev_pos h (ev_now rfl)
  · exact ev_neg h (Ev.bind (smarks a0 (by omega)) (ev_bind (imarks a0) (ev_pos rfl (ev_now rfl))))

end Go.Proofs.Ytfjfdnododnepaa.Pure
