import Derived.Test.YtjlebmnlphjjoaaGreatDoorTn
set_option linter.unusedVariables false
set_option linter.unusedSimpArgs false
/- Drawn desks with deeds, and the law of DeskRun; no condition. -/
open Go Go.Proofs.YtjlebmnlphjjoaaGreatDoor.Abs
namespace Go.Proofs.YtjlebmnlphjjoaaGreatDoor.Fx
set_option maxRecDepth 100000
set_option maxHeartbeats 8000000
set_option linter.unusedSimpArgs false
set_option linter.unusedVariables false
theorem mkS_swap {i j : Nat} {a b : List AV} {l : List (Nat × List AV)} (h : i ≠ j) : mkS ((i, a) :: (j, b) :: l) = mkS ((j, b) :: (i, a) :: l) := by
  funext k
  simp only [mkS_cons]
  by_cases h1 : k = i <;> by_cases h2 : k = j
  · exact absurd (h1.symm.trans h2) h
  · simp [h1, h]
  · simp [h2, Ne.symm h]
  · simp [h1, h2]
theorem mkS_tail (x : Nat × List AV) {l l' : List (Nat × List AV)} (h : mkS l = mkS l') : mkS (x :: l) = mkS (x :: l') := by
  obtain ⟨i, a⟩ := x
  funext k
  simp only [mkS_cons, h]
theorem doB_done {d : Desk} {a : Deed} (h : doB d a = true) : deskOk (doD d a) = true := by
  simp only [doB, Bool.and_eq_true] at h
  simp only [doD, h.1, if_true]
  exact getD_ok a h.1
/-- Texts of drawn deeds are short. -/
def ShT (L : List Deed) : Prop := ∀ a ∈ L, a.t.size ≤ 101
theorem ShT.app {D : List Deed} {a : Deed} (h : ShT D) (ha : a.t.size ≤ 101) : ShT (D ++ [a]) := by
  intro x hx
  rcases List.mem_append.1 hx with hx | hx
  · exact h x hx
  · rw [List.mem_singleton.1 hx]; exact ha
theorem lp48 (b : List Int) (hb : Rdr b) (b0 : AC) (hb0 : b0 = lb x48.1 0) : ∀ (k p : Nat) (x : Desk) (D : List Deed), p + 10 * k ≤ 700000 → k ≤ 100 → D.length + k ≤ 900 → Sz x → x.now.length ≤ 6 → ShT D →
   ∃ (L : List Deed) (p' : Nat), ShT L ∧ p ≤ p' ∧ p' ≤ p + 10 * k ∧ L.length = D.length + k ∧
   CL E [0, 5, 6, 7] [5] b0 ⟨mkT [(0, .mp 900 0 0 0), (5, .ms 3005 0 0 D.length 3), (6, .mp 6 0 0 0), (7, .p (.int .i64 (k : Nat)))], mkS [(900, [.p (.agg [.ls 1 (b.map u8), .int .i64 p])]), (3005, (D.map deed).map .p), (6, [.p (.agg [.ls 3 (x.now.map say), .ls 1 (x.past.map row)])])]⟩ =
    some (.ex 0, ⟨mkT [(5, .ms 3005 0 0 L.length 3)], mkS [(900, [.p (.agg [.ls 1 (b.map u8), .int .i64 p'])]), (3005, (L.map deed).map .p)]⟩) := by
  simp only [x48, go_sem] at hb0; subst hb0
  intro k; induction k with
  | zero =>
    intro p x D hp hk hD hx hn hS
    refine ⟨D, p, hS, by omega, by omega, by omega, ?_⟩
    rw [loop_eq]; simp (contextual := true) (implicitDefEqProofs := false) (decide := true) (maxSteps := 1000000) only [go_sem]
  | succ k ih =>
    intro p x D hp hk hD hx hn hS
    have bd := drD_bd (p := p) (L := x.now.length) hb (by omega) (by omega)
    have ed := e082 b p hb (by omega) x.now x.past (by omega)
    have k1 : (((k + 1 : Nat) : Int) > 0) := by omega
    have k2 : IntKind.wrap .i64 (((k + 1 : Nat) : Int) - 1) = (k : Int) := by rw [w64] <;> omega
    have g1 := room_ge (n := D.length + 1) (by omega)
    cases ho : doB x (drd b p x.now.length) with
    | false =>
      obtain ⟨L, p', a0, a1, a2, a3, a4⟩ := ih (drD b p x.now.length).p x (D ++ [drd b p x.now.length]) (by omega) (by omega) (by simp; omega) hx hn (hS.app bd.2.2.2.2)
      refine ⟨L, p', a0, by omega, by omega, by simp at a3; omega, ?_⟩
      simp (contextual := true) (implicitDefEqProofs := false) (decide := true) (maxSteps := 1000000) only [deed, go_sem] at a4
      rw [loop_eq]; simp (contextual := true) (implicitDefEqProofs := false) (decide := true) (maxSteps := 1000000) only [go_sem, k1, k2, ed, e60, hx, ho, apK_grow, g1, a4, deed]
    | true =>
      have hv := doB_done ho
      obtain ⟨L, p', a0, a1, a2, a3, a4⟩ := ih (drD b p x.now.length).p (doD x (drd b p x.now.length)) (D ++ [drd b p x.now.length]) (by omega) (by omega) (by simp; omega) (deskOk_sz hv) (by
        have := deskOk_len (n := (doD x (drd b p x.now.length)).now) (R := (doD x (drd b p x.now.length)).past) hv; omega) (hS.app bd.2.2.2.2)
      refine ⟨L, p', a0, by omega, by omega, by simp at a3; omega, ?_⟩
      simp (contextual := true) (implicitDefEqProofs := false) (decide := true) (maxSteps := 1000000) only [deed, go_sem] at a4
      rw [loop_eq]; simp (contextual := true) (implicitDefEqProofs := false) (decide := true) (maxSteps := 1000000) only [go_sem, k1, k2, ed, e60, hx, ho, apK_grow, g1, a4, deed]
theorem e48 (b : List Int) (p : Nat) (d : Desk) (hb : Rdr b) (hp : p ≤ 600000) (hd : Sz d) (hn : d.now.length ≤ 6) : ∃ (L : List Deed) (p' : Nat), ShT L ∧ L.length ≤ 6 ∧ p ≤ p' ∧ p' ≤ p + 70 ∧
    CF E 48 [.mp 900 0 0 0, .p (.agg [.ls 3 (d.now.map say), .ls 1 (d.past.map row)])] [[.agg [.ls 1 (b.map u8), .int .i64 p]]] = some ⟨.p (.ls 3 (L.map deed)), [[.agg [.ls 1 (b.map u8), .int .i64 (p' : Nat)]]], []⟩ := by
  have hv := pk_bd (p := p) (n := 7) hb (by omega) (by omega)
  obtain ⟨k, hk⟩ := Int.eq_ofNat_of_zero_le hv.1
  obtain ⟨L, p', a0, a1, a2, a3, a4⟩ := lp48 b hb _ rfl k (p + 1) d [] (by omega) (by omega) (by simp; omega) hd hn (fun a h => by cases h)
  have h1 : p ≤ 1000000 := by omega
  refine ⟨L, p', a0, by simp at a3; omega, by omega, by omega, ?_⟩
  rw [mkS_tail _ (mkS_swap (by decide))] at a4
  simp (contextual := true) (implicitDefEqProofs := false) (decide := true) (maxSteps := 1000000) only [x48, go_sem, List.map_nil, List.length_nil] at a4
  rw [q48]; simp (contextual := true) (implicitDefEqProofs := false) (decide := true) (maxSteps := 1000000) only [x48, go_sem, hb, h1, hk, a4]
theorem e12 (b : List Int) (hb : ∀ x ∈ b, 0 ≤ x ∧ x ≤ 255) (hl : b.length ≤ room) : ∃ (d : Desk) (L : List Deed), Sm d ∧ L.length ≤ 41 ∧
    CF E 12 [.p (.ls 1 (b.map u8))] [] = some ⟨.p (.tup [.agg [.ls 3 (d.now.map say), .ls 1 (d.past.map row)], .ls 3 (L.map deed)]), [], []⟩ := by
  have hr := Rdr.open hb
  obtain ⟨d, q, hs, h1, h2, h3⟩ := drawn 12 (.inr rfl) (b.take 2000) 0 hr (by omega)
  have eo := e38 b hl
  have z0 : ((0 : Nat) : Int) = 0 := rfl
  rw [z0] at h3 eo
  have q1 : q ≤ 1000000 := by omega
  generalize b.take 2000 = B at *
  cases ho : od B q 30 with
  | true =>
    refine ⟨d, List.replicate 41 ⟨0, 0, tx []⟩, hs, by simp, ?_⟩
    rw [q12]; simp (contextual := true) (implicitDefEqProofs := false) (decide := true) (maxSteps := 1000000) only [x12, go_sem, eo, h3, hr, q1, ho, deed]
  | false =>
    obtain ⟨L, p', _, a1, a2, a3, a4⟩ := e48 B (q + 1) d hr (by omega) hs.sz hs.1
    refine ⟨d, L, hs, by omega, ?_⟩
    rw [q12]; simp (contextual := true) (implicitDefEqProofs := false) (decide := true) (maxSteps := 1000000) only [x12, go_sem, eo, h3, hr, q1, ho, a4]
theorem Sz0 : Sz none0 := ⟨room_ge (by simp [none0]), room_ge (by simp [none0]), by simp [none0]⟩
@[go_sem] theorem e27 (d : Desk) (hd : Sz d) : CF E 27 [.p (.agg [.ls 3 (d.now.map say), .ls 1 (d.past.map row)])] [] = some ⟨.p (.bool (decide (d = none0))), [], []⟩ := by
  have e := e18 d none0 hd Sz0
  simp (contextual := true) (implicitDefEqProofs := false) (decide := true) (maxSteps := 1000000) only [none0, go_sem] at e
  rw [q27]; simp (contextual := true) (implicitDefEqProofs := false) (decide := true) (maxSteps := 1000000) only [x27, go_sem, e, none0]
theorem rnD_app (d : Desk) (A B : List Deed) : rnD d (A ++ B) = rnD (rnD d A) B := List.foldl_append
theorem rnN_app : ∀ (A B : List Deed) (d : Desk), rnN d (A ++ B) = rnN d A + rnN (rnD d A) B
  | [], B, d => by simp [rnN, rnD]
  | a :: A, B, d => by
    have := rnN_app A B ((deskDo d a).getD d)
    simp only [List.cons_append, rnN, this, Nat.add_assoc]
    rfl
theorem rD_sz {d : Desk} (L : List Deed) (hd : Sz d) : Sz (rD d L) := by
  unfold rD
  split
  · rename_i h; exact deskOk_sz (rnD_ok L h.1)
  · exact Sz0
end Go.Proofs.YtjlebmnlphjjoaaGreatDoor.Fx
