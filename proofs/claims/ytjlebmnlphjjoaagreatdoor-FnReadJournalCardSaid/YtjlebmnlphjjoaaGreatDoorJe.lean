import Derived.Test.YtjlebmnlphjjoaaGreatDoorJd
set_option linter.unusedVariables false
set_option linter.unusedSimpArgs false
/- Deeds are read by the reference; no condition. -/
open Go Go.Proofs.YtjlebmnlphjjoaaGreatDoor.Abs
namespace Go.Proofs.YtjlebmnlphjjoaaGreatDoor.Fx
set_option maxRecDepth 100000
set_option maxHeartbeats 8000000
set_option linter.unusedSimpArgs false
set_option linter.unusedVariables false
def d00 : AV := .p (.agg [.int .i64 0, .int .i64 0, .str (tx [])])
theorem lp045 (s : ByteArray) (b : AC) (hb : b = lb x45.1 0) : ∀ (r i : Nat) (X : List Deed), i + r = 10 → X.length + r ≤ 900 →
   CL E [0, 2, 4, 5] [0, 2, 4] b ⟨mkT [(0, .p (.str s)), (2, .mp 2 0 0 0), (4, .ms 3004 0 0 X.length 3), (5, .p (.int .i64 i))], mkS [(2, [d00]), (3004, (X.map deed).map .p)]⟩ =
    some (.ex 0, ⟨mkT [(0, .p (.str s)), (2, .mp 2 0 0 0), (4, .ms 3004 0 0 (X ++ drops i r).length 3)], mkS [(2, [d00]), (3004, ((X ++ drops i r).map deed).map .p)]⟩) := by
  simp only [x45, go_sem] at hb; subst hb
  unfold d00
  intro r; induction r with
  | zero =>
    intro i X hi hX
    have h2 : ¬ ((i : Int) ≤ 9) := by omega
    have e : drops i 0 = [] := rfl
    rw [e, List.append_nil]
    rw [loop_eq]; simp (contextual := true) (implicitDefEqProofs := false) (decide := true) (maxSteps := 1000000) only [go_sem, h2]
  | succ r ih =>
    intro i X hi hX
    have h5 : ((i : Int) ≤ 9) := by omega
    have h6 := w64s (n := i) (by omega)
    have h9 : X.length + 1 ≤ room := room_ge (by omega)
    have ih := ih (i + 1) (X ++ [⟨1, (i : Int), tx []⟩]) (by omega) (by simp; omega)
    have e : X ++ drops i (r + 1) = X ++ [⟨1, (i : Int), tx []⟩] ++ drops (i + 1) r := by simp [drops]
    rw [e]
    generalize drops (i + 1) r = R at *
    simp (contextual := true) (implicitDefEqProofs := false) (decide := true) (maxSteps := 1000000) only [deed, go_sem] at ih
    rw [loop_eq]; simp (contextual := true) (implicitDefEqProofs := false) (decide := true) (maxSteps := 1000000) only [go_sem, h5, h6, h9, deed, apK_grow, ih]
theorem lp145 (s : ByteArray) (X : List Deed) (hX : X.length ≤ 1000) (ht : ∀ a ∈ X, a.t.size ≤ room) (b : AC) (hb : b = lb x45.1 1) : ∀ (l : List Deed) (i : Nat), X.drop i = l →
   CL E [0, 2, 4, 6] [2, 3] b ⟨mkT [(0, .p (.str s)), (2, .mp 2 0 0 0), (4, .ms 3004 0 0 X.length 3), (6, .p (.int .i64 i))], mkS [(2, [d00]), (3004, (X.map deed).map .p)]⟩ =
    match rdL s l with
    | some a => some (.ret, ⟨mkT [(2, .mp 2 0 0 0), (3, .p (.bool true))], mkS [(2, [.p (.agg [.int .i64 a.k, .int .i64 a.n, .str a.t])])]⟩)
    | none => some (.ex 2, ⟨mkT [(2, .mp 2 0 0 0), (3, .un)], mkS [(2, [d00])]⟩) := by
  simp only [x45, go_sem] at hb; subst hb
  unfold d00
  intro l; induction l with
  | nil =>
    intro i hi; have h1 := dropn hi
    have h2 : ¬ ((i : Int) < X.length) := by omega
    rw [loop_eq]; simp (contextual := true) (implicitDefEqProofs := false) (decide := true) (maxSteps := 1000000) only [go_sem, h2, rdL]
  | cons a l ih =>
    intro i hi; obtain ⟨h1, h2, h3, h4⟩ := dropc hi
    have h5 : ((i : Int) < X.length) := by omega
    have h6 := w64s (n := i) (by omega)
    have ha := ht a (List.mem_of_getElem? h2)
    have ih := ih (i + 1) h3
    unfold rdL
    by_cases k0 : s = tx []
    · have k0' : (s = tx []) = True := eq_true k0
      rw [if_neg (fun e => e.1 k0), ← ih]
      rw [loop_eq]; simp (contextual := true) (implicitDefEqProofs := false) (decide := true) (maxSteps := 1000000) only [go_sem, h2, h5, h6, deed, k0', ha]
    · by_cases kd : dB a = s
      · have kd' : (dB ⟨a.k, a.n, a.t⟩ = s) = True := eq_true kd
        rw [if_pos ⟨k0, kd⟩]
        rw [loop_eq]; simp (contextual := true) (implicitDefEqProofs := false) (decide := true) (maxSteps := 1000000) only [go_sem, h2, h5, h6, deed, k0, kd', ha]
      · have kd' : (dB ⟨a.k, a.n, a.t⟩ = s) = False := eq_false kd
        rw [if_neg (fun e => kd e.2), ← ih]
        rw [loop_eq]; simp (contextual := true) (implicitDefEqProofs := false) (decide := true) (maxSteps := 1000000) only [go_sem, h2, h5, h6, deed, k0, kd', ha]
theorem e45 (s : ByteArray) (hs : s.size ≤ room) : CF E 45 [.p (.str s)] [] = some ⟨.p (rdP s), [], []⟩ := by
  have hR := rdL_all s
  have ht : ∀ a ∈ lstS s ++ drops 0 10, a.t.size ≤ room := by
    have h0 : (tx []).size ≤ room := by rw [tx_size]; exact Nat.zero_le _
    have hd : ∀ r i, ∀ a ∈ drops i r, a.t = tx [] := by
      intro r; induction r with
      | zero => intro i a h; simp [drops] at h
      | succ r ih =>
        intro i a h
        rcases List.mem_cons.1 h with rfl | h
        · rfl
        · exact ih _ a h
    intro a ha
    rcases List.mem_append.1 ha with ha | ha
    · unfold lstS at ha
      rcases List.mem_cons.1 ha with rfl | ha
      · exact h0
      · split at ha
        · rw [List.mem_singleton.1 ha]
          show (s.extract 4 s.size).size ≤ _
          rw [ByteArray.size_extract]; omega
        · cases ha
    · rw [hd _ _ a ha]; exact h0
  have hlen : (lstS s).length ≤ 2 := by unfold lstS; split <;> simp
  have hdl : (drops 0 10).length = 10 := rfl
  have L0 := lp045 s _ rfl 10 0 (lstS s) rfl (by omega)
  have L1 := lp145 s (lstS s ++ drops 0 10) (by rw [List.length_append]; omega) ht _ rfl _ 0 rfl
  rw [List.drop_zero, hR] at L1
  have h2 : 1 + 1 ≤ room := by unfold room; omega
  have hP : rdP s = match rd s with
    | some a => .tup [.agg [.int .i64 a.k, .int .i64 a.n, .str a.t], .bool true]
    | none => .tup [.agg [.int .i64 0, .int .i64 0, .str (tx [])], .bool false] := by
    unfold rdP rdo
    cases rd s <;> rfl
  rw [hP]
  generalize rd s = R at *
  generalize hX : lstS s ++ drops 0 10 = X at *
  unfold d00 at L0 L1
  unfold lstS at L0
  rw [q45]
  by_cases h : 4 < s.size
  · have h3 : ((4 : Int) < s.size) := by omega
    have h4 : ((4 : Int) ≤ s.size) := by omega
    rw [if_pos h] at L0
    simp (contextual := true) (implicitDefEqProofs := false) (decide := true) (maxSteps := 1000000) only [x45, deed, go_sem] at L0 L1
    cases R with
    | none => simp (contextual := true) (implicitDefEqProofs := false) (decide := true) (maxSteps := 1000000) only [x45, go_sem, h3, h4, apK_grow, h2, L0, L1]
    | some a => simp (contextual := true) (implicitDefEqProofs := false) (decide := true) (maxSteps := 1000000) only [x45, go_sem, h3, h4, apK_grow, h2, L0, L1]
  · have h3 : ¬ ((4 : Int) < s.size) := by omega
    rw [if_neg h] at L0
    simp (contextual := true) (implicitDefEqProofs := false) (decide := true) (maxSteps := 1000000) only [x45, deed, go_sem] at L0 L1
    cases R with
    | none => simp (contextual := true) (implicitDefEqProofs := false) (decide := true) (maxSteps := 1000000) only [x45, go_sem, h3, apK_grow, h2, L0, L1]
    | some a => simp (contextual := true) (implicitDefEqProofs := false) (decide := true) (maxSteps := 1000000) only [x45, go_sem, h3, apK_grow, h2, L0, L1]
end Go.Proofs.YtjlebmnlphjjoaaGreatDoor.Fx
