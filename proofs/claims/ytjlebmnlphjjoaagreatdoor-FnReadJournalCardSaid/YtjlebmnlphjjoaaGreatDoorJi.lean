import Derived.Test.YtjlebmnlphjjoaaGreatDoorJg
set_option linter.unusedVariables false
set_option linter.unusedSimpArgs false
/- A journal that is cut, and lines of deeds; no condition. -/
open Go Go.Proofs.YtjlebmnlphjjoaaGreatDoor.Abs
namespace Go.Proofs.YtjlebmnlphjjoaaGreatDoor.Fx
set_option maxRecDepth 100000
set_option maxHeartbeats 8000000
set_option linter.unusedSimpArgs false
set_option linter.unusedVariables false
theorem split10 (s : ByteArray) : (∀ x ∈ s.data.toList, x ≠ 10) ∨ ∃ d r : ByteArray, s = (d ++ ⟨#[10]⟩) ++ r ∧ ∀ x ∈ d.data.toList, x ≠ 10 := by
  rcases idx_cases 10 s.data.toList with ⟨_, h⟩ | ⟨l1, l2, h0, h, _⟩
  · exact .inl h
  · refine .inr ⟨⟨l1.toArray⟩, ⟨l2.toArray⟩, ba_ext (by rw [app_list, app_list, h0]; simp), by simpa using h⟩
theorem cut_none' {s : ByteArray} (h : ∀ x ∈ s.data.toList, x ≠ 10) : (cutAt s 10).2.2 = false := by
  rcases idx_cases 10 s.data.toList with ⟨h1, _⟩ | ⟨l1, l2, h0, _, h1⟩
  · rw [cut_none h1]
  · exact absurd rfl (h 10 (by rw [h0]; simp))
theorem rj_none {s : ByteArray} (h : ∀ x ∈ s.data.toList, x ≠ 10) (n : Nat) : rjS n s = ([], 0) := by
  cases n with
  | zero => rfl
  | succ n => unfold rjS; rw [cut_none' h]; rfl
theorem sz3 (d r : ByteArray) : ((d ++ ⟨#[10]⟩) ++ r).size = d.size + 1 + r.size := by
  rw [ByteArray.size_append, ByteArray.size_append]; rfl
theorem ex3 (d r : ByteArray) (k : Nat) (h : d.size + 1 ≤ k) : ((d ++ ⟨#[10]⟩) ++ r).extract 0 k = (d ++ ⟨#[10]⟩) ++ r.extract 0 (k - (d.size + 1)) := by
  have hs : (d.data.toList ++ [10]).length = d.size + 1 := by rw [List.length_append, len_list]; rfl
  have e10 : (⟨#[10]⟩ : ByteArray).data.toList = [10] := rfl
  refine ba_ext ?_
  rw [ex_list, app_list, app_list, app_list, app_list, ex_list, e10, List.drop_zero, List.drop_zero, List.take_append, hs, List.take_of_length_le (by omega)]
theorem rj_step (n : Nat) (d r : ByteArray) (h : ∀ x ∈ d.data.toList, x ≠ 10) : rjS (n + 1) ((d ++ ⟨#[10]⟩) ++ r) = match rd d with
    | some a => (a :: (rjS n r).1, d.size + 1 + (rjS n r).2)
    | none => ([], 0) := by
  have hc := cut_line d r 10 h
  show (if (cutAt ((d ++ ⟨#[10]⟩) ++ r) 10).2.2 = true then _ else _) = _
  rw [hc]; rfl
/-- Of a text that is cut, the first deeds are read and no others. -/
theorem rj_cut : ∀ (n : Nat) (s : ByteArray) (k m : Nat), s.size < n → k ≤ s.size → k < m → (∃ R, (rjS n s).1 = (rjS m (s.extract 0 k)).1 ++ R) ∧ (rjS m (s.extract 0 k)).2 ≤ k
  | 0, s, k, m, h, _, _ => absurd h (by omega)
  | n + 1, s, k, m, hn, hk, hm => by
    have hsub : ∀ x ∈ (s.extract 0 k).data.toList, x ∈ s.data.toList := fun x hx => by
      rw [ex_list, List.drop_zero] at hx; exact List.mem_of_mem_take hx
    rcases split10 s with h | ⟨d, r, rfl, h⟩
    · rw [rj_none (fun x hx => h x (hsub x hx))]
      exact ⟨⟨_, rfl⟩, Nat.zero_le _⟩
    · rw [sz3] at hn hk
      by_cases hd : d.size + 1 ≤ k
      · rw [ex3 d r k hd]
        match m, hm with
        | m + 1, hm =>
        rw [rj_step _ _ _ h, rj_step _ _ _ h]
        obtain ⟨⟨R, h1⟩, h2⟩ := rj_cut n r (k - (d.size + 1)) m (by omega) (by omega) (by omega)
        cases rd d with
        | none => exact ⟨⟨[], rfl⟩, Nat.zero_le _⟩
        | some a => exact ⟨⟨R, by show a :: _ = a :: _ ++ R; rw [h1]; rfl⟩, by show d.size + 1 + _ ≤ k; omega⟩
      · have hno : ∀ x ∈ (((d ++ ⟨#[10]⟩) ++ r).extract 0 k).data.toList, x ≠ 10 := fun x hx => by
          rw [ex_list, List.drop_zero, app_list, app_list, List.append_assoc, List.take_append_of_le_length (by rw [len_list]; omega)] at hx
          exact h x (List.mem_of_mem_take hx)
        rw [rj_none hno]
        exact ⟨⟨_, rfl⟩, Nat.zero_le _⟩
theorem t_le {a : Deed} (h : dB a ≠ tx []) : a.t.size ≤ (dB a).size := by
  unfold dB at h ⊢
  split
  · rw [ByteArray.size_append]; omega
  · rename_i h1
    rw [if_neg h1] at h
    split
    · rename_i h2
      rw [h2.2.1, tx_size]; exact Nat.zero_le _
    · rename_i h2
      rw [if_neg h2] at h
      split
      · rename_i h3
        rw [h3.2.2, tx_size]; exact Nat.zero_le _
      · rename_i h3
        rw [if_neg h3] at h; exact absurd rfl h
/-- What is read is what is written. -/
theorem rj_text : ∀ (n : Nat) (s : ByteArray), (rjS n s).2 ≤ s.size ∧ (rjS n s).1.length ≤ (rjS n s).2 ∧ jN (rjS n s).1 = true ∧ jT (tx []) (rjS n s).1 = s.extract 0 (rjS n s).2 ∧ ∀ a ∈ (rjS n s).1, dB a ≠ tx [] ∧ a.t.size ≤ s.size
  | 0, s => ⟨Nat.zero_le _, Nat.le_refl _, rfl, by show tx [] = _; exact (ba_ext (by rw [ex_list, tx_list]; rfl)), by simp [rjS]⟩
  | n + 1, s => by
    have e0 : ∀ s : ByteArray, jT (tx []) [] = s.extract 0 0 := fun s => ba_ext (by rw [ex_list]; show (tx []).data.toList = _; rw [tx_list]; rfl)
    rcases split10 s with h | ⟨d, r, rfl, h⟩
    · rw [rj_none h]
      exact ⟨Nat.zero_le _, Nat.le_refl _, rfl, e0 _, by simp⟩
    · rw [rj_step _ _ _ h]
      cases hr : rd d with
      | none => exact ⟨Nat.zero_le _, Nat.le_refl _, rfl, e0 _, by simp⟩
      | some a =>
        obtain ⟨i1, i2, i3, i4, i5⟩ := rj_text n r
        obtain ⟨h1, h2⟩ := rd_some hr
        have hne : dB a ≠ tx [] := by rw [h1]; exact h2
        refine ⟨by rw [sz3]; show d.size + 1 + _ ≤ _; omega, by show _ + 1 ≤ d.size + 1 + _; omega, ?_, ?_, ?_⟩
        · show jN (a :: _) = true
          unfold jN
          rw [decide_eq_false hne, i3]; rfl
        · show jT (tx []) (a :: (rjS n r).1) = ((d ++ ⟨#[10]⟩) ++ r).extract 0 (d.size + 1 + (rjS n r).2)
          unfold jT
          rw [if_neg hne, jT_app _ _ i3, i4, ex3 _ _ _ (by omega), h1, Nat.add_sub_cancel_left]
          refine ba_ext ?_
          simp only [app_list, tx_list]
          rfl
        · intro x hx
          rcases List.mem_cons.1 hx with rfl | hx
          · refine ⟨hne, ?_⟩
            have := t_le hne
            rw [h1] at this
            rw [sz3]; omega
          · obtain ⟨g1, g2⟩ := i5 x hx
            exact ⟨g1, by rw [sz3]; omega⟩
theorem Deed_eq (a b : Deed) : (a = b) = (a.k = b.k ∧ a.n = b.n ∧ a.t = b.t) := by
  cases a; cases b; simp
theorem lp11 (A B : List Deed) (hA : A.length ≤ 100000) (hB : A.length = B.length) (b : AC) (hb : b = lb x11.1 0) : ∀ (l m : List Deed) (i : Nat), A.drop i = l → B.drop i = m →
   CL E [0, 1, 5] [4] b ⟨mkT [(0, .p (.ls 3 (A.map deed))), (1, .p (.ls 3 (B.map deed))), (5, .p (.int .i64 i))], mkS []⟩ =
    if l = m then some (.ex 0, ⟨mkT [(4, .un)], mkS []⟩) else some (.ret, ⟨mkT [(4, .p (.bool false))], mkS []⟩) := by
  simp only [x11, go_sem] at hb; subst hb
  intro l; induction l with
  | nil =>
    intro m i hi hm; have h1 := dropn hi
    obtain rfl : m = [] := by rw [← hm]; exact List.drop_of_length_le (by omega)
    have h2 : ¬ ((i : Int) < A.length) := by omega
    rw [loop_eq]; simp (contextual := true) (implicitDefEqProofs := false) (decide := true) (maxSteps := 1000000) only [go_sem, h2]
  | cons a l ih =>
    intro m i hi hm; obtain ⟨h1, h2, h3, h4⟩ := dropc hi
    cases m with
    | nil => have := dropn hm; omega
    | cons c m =>
      obtain ⟨g1, g2, g3, g4⟩ := dropc hm
      have h5 : ((i : Int) < A.length) := by omega
      have h6 := w64s (n := i) (by omega)
      have ih := ih m (i + 1) h3 g3
      by_cases h7 : a = c
      · subst h7
        have e : (a :: l = a :: m) = (l = m) := by simp
        simp only [e]
        rw [← ih]
        rw [loop_eq]; simp (contextual := true) (implicitDefEqProofs := false) (decide := true) (maxSteps := 1000000) only [go_sem, h2, g2, h5, h6, deed, eqCells, eqCell]
      · have e : (a :: l = c :: m) = False := by simp [h7]
        have h8 : ¬ (a.k = c.k ∧ a.n = c.n ∧ a.t = c.t) := by rw [← Deed_eq]; exact h7
        simp only [e, if_false]
        by_cases k1 : a.k = c.k <;> by_cases k2 : a.n = c.n <;> by_cases k3 : a.t = c.t
        · exact absurd ⟨k1, k2, k3⟩ h8
        all_goals (rw [loop_eq]; simp (contextual := true) (implicitDefEqProofs := false) (decide := true) (maxSteps := 1000000) only [go_sem, h2, g2, h5, h6, deed, eqCells, eqCell, k1, k2, k3])
@[go_sem] theorem e11 (A B : List Deed) (hA : A.length ≤ 100000) : CF E 11 [.p (.ls 3 (A.map deed)), .p (.ls 3 (B.map deed))] [] = some ⟨.p (.bool (decide (A = B))), [], []⟩ := by
  rw [q11]
  by_cases h : A.length = B.length
  · have L := lp11 A B hA h _ rfl A B 0 rfl rfl
    have h1 : ((A.length : Int) = B.length) := by omega
    by_cases e : A = B
    · rw [if_pos e] at L
      simp (contextual := true) (implicitDefEqProofs := false) (decide := true) (maxSteps := 1000000) only [x11, go_sem] at L
      simp (contextual := true) (implicitDefEqProofs := false) (decide := true) (maxSteps := 1000000) only [x11, go_sem, h1, L]
      simp [e]
    · rw [if_neg e] at L
      simp (contextual := true) (implicitDefEqProofs := false) (decide := true) (maxSteps := 1000000) only [x11, go_sem] at L
      simp (contextual := true) (implicitDefEqProofs := false) (decide := true) (maxSteps := 1000000) only [x11, go_sem, h1, L]
      simp [e]
  · have h1 : ¬ ((A.length : Int) = B.length) := by omega
    have e : ¬ (A = B) := fun e => h (by rw [e])
    simp (contextual := true) (implicitDefEqProofs := false) (decide := true) (maxSteps := 1000000) only [x11, go_sem, h1, e]
def okT (b : Bool) : ByteArray := if b = true then (tx [111, 107]) else (tx [110, 111])
theorem e51 (d : Desk) (a : Deed) (hd : deskOk d = true) (ha : dB a ≠ tx []) (hs : (dB a).size ≤ room) : CF E 51 [.p (.agg [.ls 3 (d.now.map say), .ls 1 (d.past.map row)]), .p (.str (dB a))] [] =
    some ⟨.p (.tup [.agg [.ls 3 (((deskDo d a).getD d).now.map say), .ls 1 (((deskDo d a).getD d).past.map row)], .str (okT (deskDo d a).isSome)]), [], []⟩ := by
  have hr := e44 (dB a) hs
  unfold rdP rdo at hr
  rw [rd_of rfl ha] at hr
  simp only [Option.getD_some, Option.isSome_some] at hr
  have hdo := e54 d a hd
  rw [q51]
  cases ho : deskDo d a with
  | none =>
    rw [ho] at hdo
    simp only [Option.getD_none, Option.isSome_none] at hdo
    simp (contextual := true) (implicitDefEqProofs := false) (decide := true) (maxSteps := 1000000) only [x51, go_sem, hr, hdo, okT, Option.getD_none, Option.isSome_none]
  | some e =>
    rw [ho] at hdo
    simp only [Option.getD_some, Option.isSome_some] at hdo
    simp (contextual := true) (implicitDefEqProofs := false) (decide := true) (maxSteps := 1000000) only [x51, go_sem, hr, hdo, okT, Option.getD_some, Option.isSome_some]
theorem e14 (d : Desk) (a : Deed) (hd : deskOk d = true) (ha : dB a ≠ tx []) (hs : (dB a).size ≤ room) : CF E 14 [.p (.agg [.ls 3 (d.now.map say), .ls 1 (d.past.map row)]), .p (.str (dB a))] [] =
    some ⟨.p (.tup [.agg [.ls 3 (((deskDo d a).getD d).now.map say), .ls 1 (((deskDo d a).getD d).past.map row)], .str (okT (deskDo d a).isSome)]), [], []⟩ := by
  have hv := e50 d (deskOk_sz hd)
  rw [hd] at hv
  have hl := e51 d a hd ha hs
  rw [q14]; simp (contextual := true) (implicitDefEqProofs := false) (decide := true) (maxSteps := 1000000) only [x14, go_sem, hv, hl]
end Go.Proofs.YtjlebmnlphjjoaaGreatDoor.Fx
