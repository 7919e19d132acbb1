import Derived.Test.YtjlebmnlphjjoaaGreatDoorJg
import Derived.Test.YtjlebmnlphjjoaaGreatDoorTo
set_option linter.unusedVariables false
set_option linter.unusedSimpArgs false
/- Drawn journals; no condition. -/
open Go Go.Proofs.YtjlebmnlphjjoaaGreatDoor.Abs
namespace Go.Proofs.YtjlebmnlphjjoaaGreatDoor.Fx
set_option maxRecDepth 100000
set_option maxHeartbeats 8000000
set_option linter.unusedSimpArgs false
set_option linter.unusedVariables false
def wr (L : List Deed) : List Deed := L.filter fun a => !decide (dB a = tx [])
theorem wr_N : ∀ L : List Deed, jN (wr L) = true
  | [] => rfl
  | x :: r => by
    unfold wr
    rw [List.filter_cons]
    by_cases h : dB x = tx []
    · rw [decide_eq_true h]; exact wr_N r
    · rw [decide_eq_false h]
      show jN (x :: wr r) = true
      unfold jN
      rw [decide_eq_false h, wr_N r]; rfl
theorem lp40 (L : List Deed) (hL : L.length ≤ 100) (hS : ShT L) (R : PV) (b : AC) (hb : b = lb x40.1 0) : ∀ (l : List Deed) (i : Nat) (D : List Deed), L.drop i = l → D.length ≤ i →
   CL E [3, 4, 5] [3] b ⟨mkT [(3, .ms 3003 0 0 D.length 3), (4, .p (.ls 3 (L.map deed))), (5, .p (.int .i64 i))], mkS [(900, [.p R]), (3003, (D.map deed).map .p)]⟩ =
    some (.ex 0, ⟨mkT [(3, .ms 3003 0 0 (D ++ wr l).length 3)], mkS [(900, [.p R]), (3003, ((D ++ wr l).map deed).map .p)]⟩) := by
  simp only [x40, go_sem] at hb; subst hb
  intro l; induction l with
  | nil =>
    intro i D hi hD; have h1 := dropn hi
    have h2 : ¬ ((i : Int) < L.length) := by omega
    have e : wr [] = [] := rfl
    rw [e, List.append_nil]
    rw [loop_eq]; simp (contextual := true) (implicitDefEqProofs := false) (decide := true) (maxSteps := 1000000) only [go_sem, h2]
  | cons a l ih =>
    intro i D hi hD; obtain ⟨h1, h2, h3, h4⟩ := dropc hi
    have h5 : ((i : Int) < L.length) := by omega
    have h6 := w64s (n := i) (by omega)
    have h7 := hS a (List.mem_of_getElem? h2)
    have h8 : a.t.size ≤ room := by unfold room; omega
    have g1 := room_ge (n := D.length + 1) (by omega)
    by_cases kd : dB a = tx []
    · have kd' : (dB ⟨a.k, a.n, a.t⟩ = tx []) = True := eq_true kd
      have ih := ih (i + 1) D h3 (by omega)
      have e : wr (a :: l) = wr l := by unfold wr; rw [List.filter_cons, decide_eq_true kd]; rfl
      rw [e, ← ih]
      rw [loop_eq]; simp (contextual := true) (implicitDefEqProofs := false) (decide := true) (maxSteps := 1000000) only [go_sem, h2, h5, h6, deed, kd', h8]
    · have kd' : (dB ⟨a.k, a.n, a.t⟩ = tx []) = False := eq_false kd
      have ih := ih (i + 1) (D ++ [a]) h3 (by simp; omega)
      have e : D ++ wr (a :: l) = D ++ [a] ++ wr l := by unfold wr; rw [List.filter_cons, decide_eq_false kd]; simp
      rw [e]
      generalize wr l = W at *
      simp (contextual := true) (implicitDefEqProofs := false) (decide := true) (maxSteps := 1000000) only [deed, go_sem] at ih
      rw [loop_eq]; simp (contextual := true) (implicitDefEqProofs := false) (decide := true) (maxSteps := 1000000) only [go_sem, h2, h5, h6, deed, kd', h8, apK_grow, g1, ih]
theorem e40 (b : List Int) (p : Nat) (hb : Rdr b) (hp : p ≤ 500000) : ∃ (W : List Deed) (q : Nat), ShT W ∧ W.length ≤ 6 ∧ jN W = true ∧ p ≤ q ∧ q ≤ p + 200 ∧
    CF E 40 [.mp 900 0 0 0] [[.agg [.ls 1 (b.map u8), .int .i64 p]]] = some ⟨.p (.ls 3 (W.map deed)), [[.agg [.ls 1 (b.map u8), .int .i64 (q : Nat)]]], []⟩ := by
  obtain ⟨d, q, hs, h1, h2, h3⟩ := drawn 0 (.inl rfl) b p hb (by omega)
  obtain ⟨L, p', a0, a1, a2, a3, a4⟩ := e48 b q d hb (by omega) hs.sz hs.1
  have Lp := lp40 L (by omega) a0 (.agg [.ls 1 (b.map u8), .int .i64 p']) _ rfl L 0 [] rfl (Nat.le_refl _)
  refine ⟨wr L, p', fun a ha => a0 a ((List.mem_filter.1 ha).1), Nat.le_trans (List.length_filter_le _ _) a1, wr_N L, by omega, by omega, ?_⟩
  rw [List.nil_append] at Lp
  generalize wr L = W at *
  simp (contextual := true) (implicitDefEqProofs := false) (decide := true) (maxSteps := 1000000) only [x40, go_sem, List.map_nil, List.length_nil] at Lp
  rw [q40]; simp (contextual := true) (implicitDefEqProofs := false) (decide := true) (maxSteps := 1000000) only [x40, go_sem, h3, a4, Lp]
theorem e42 (b : List Int) (p : Nat) (s : ByteArray) (hb : Rdr b) (hp : p ≤ 500000) (hs : s.size ≤ 10000) : ∃ (r : ByteArray) (q : Nat), r.size ≤ s.size + 10 ∧ p ≤ q ∧ q ≤ p + 2 ∧
    CF E 42 [.mp 900 0 0 0, .p (.str s)] [[.agg [.ls 1 (b.map u8), .int .i64 p]]] = some ⟨.p (.str r), [[.agg [.ls 1 (b.map u8), .int .i64 (q : Nat)]]], []⟩ := by
  by_cases h : s.size = 0
  · have h2 : ((s.size : Int) = 0) := by omega
    refine ⟨tx [10], p, by rw [tx_size]; simp, by omega, by omega, ?_⟩
    rw [q42]; simp (contextual := true) (implicitDefEqProofs := false) (decide := true) (maxSteps := 1000000) only [x42, go_sem, h2]
  · have h2 : ¬ ((s.size : Int) = 0) := by omega
    have hv := pk_bd (p := p) (n := (s.size : Int)) hb (by omega) (by omega)
    obtain ⟨k, hk⟩ := Int.eq_ofNat_of_zero_le hv.1
    have hu := pk_bd (p := p + 1) (n := 6) hb (by omega) (by omega)
    rw [hk] at hv
    have h3 : (1 : Int) ≤ s.size := by omega
    have l1 : (0 : Int) ≤ (k : Int) := by omega
    have l2 : (k : Int) ≤ s.size := by omega
    have w1 := w64s (n := k) (by omega)
    have l3 : (0 : Int) ≤ ((k + 1 : Nat) : Int) := by omega
    have l4 : ((k + 1 : Nat) : Int) ≤ s.size := by omega
    have hp1 : p ≤ 1000000 := by omega
    have hp2 : p + 1 ≤ 1000000 := by omega
    have z1 : (s.extract 0 k).size ≤ s.size := by rw [ByteArray.size_extract]; omega
    have z3 : (s.extract 0 k).size ≤ k := by rw [ByteArray.size_extract]; omega
    have z2 : (s.extract (k + 1) s.size).size ≤ s.size - (k + 1) := by rw [ByteArray.size_extract]; omega
    have key : ∀ x : ByteArray, x.size ≤ 4 → (s.extract 0 k ++ x ++ s.extract (k + 1) s.size).size ≤ s.size + 10 := fun x hx => by
      rw [ByteArray.size_append, ByteArray.size_append]; omega
    have : pk b (p + 1) 6 = 0 ∨ pk b (p + 1) 6 = 1 ∨ pk b (p + 1) 6 = 2 ∨ pk b (p + 1) 6 = 3 ∨ pk b (p + 1) 6 = 4 ∨ pk b (p + 1) 6 = 5 := by omega
    have n0 : (s.extract 0 k).size ≤ 9223372036854775807 := by omega
    have n1 : (s.extract 0 k).size ≤ 9223372036854775806 := by omega
    have n4 : (s.extract 0 k).size ≤ 9223372036854775803 := by omega
    have m0 : (s.extract 0 k).size + (s.extract (k + 1) s.size).size ≤ 9223372036854775807 := by omega
    have m1 : (s.extract 0 k).size + 1 + (s.extract (k + 1) s.size).size ≤ 9223372036854775807 := by omega
    have m4 : (s.extract 0 k).size + 4 + (s.extract (k + 1) s.size).size ≤ 9223372036854775807 := by omega
    rcases this with e | e | e | e | e | e
    · refine ⟨_, p + 1 + 1, key (tx []) (by rw [tx_size]; simp), by omega, by omega, ?_⟩
      rw [q42]; simp (contextual := true) (implicitDefEqProofs := false) (decide := true) (maxSteps := 1000000) only [x42, go_sem, h2, h3, hb, hp1, hp2, hk, e, l1, l2, l3, l4, w1, n0, n1, n4, m0, m1, m4]
    · refine ⟨_, p + 1 + 1, key (tx [97]) (by rw [tx_size]; simp), by omega, by omega, ?_⟩
      rw [q42]; simp (contextual := true) (implicitDefEqProofs := false) (decide := true) (maxSteps := 1000000) only [x42, go_sem, h2, h3, hb, hp1, hp2, hk, e, l1, l2, l3, l4, w1, n0, n1, n4, m0, m1, m4]
    · refine ⟨_, p + 1 + 1, key (tx [32]) (by rw [tx_size]; simp), by omega, by omega, ?_⟩
      rw [q42]; simp (contextual := true) (implicitDefEqProofs := false) (decide := true) (maxSteps := 1000000) only [x42, go_sem, h2, h3, hb, hp1, hp2, hk, e, l1, l2, l3, l4, w1, n0, n1, n4, m0, m1, m4]
    · refine ⟨_, p + 1 + 1, key (tx [10]) (by rw [tx_size]; simp), by omega, by omega, ?_⟩
      rw [q42]; simp (contextual := true) (implicitDefEqProofs := false) (decide := true) (maxSteps := 1000000) only [x42, go_sem, h2, h3, hb, hp1, hp2, hk, e, l1, l2, l3, l4, w1, n0, n1, n4, m0, m1, m4]
    · refine ⟨_, p + 1 + 1, key (tx [48]) (by rw [tx_size]; simp), by omega, by omega, ?_⟩
      rw [q42]; simp (contextual := true) (implicitDefEqProofs := false) (decide := true) (maxSteps := 1000000) only [x42, go_sem, h2, h3, hb, hp1, hp2, hk, e, l1, l2, l3, l4, w1, n0, n1, n4, m0, m1, m4]
    · refine ⟨_, p + 1 + 1, key (tx [98, 97, 99, 107]) (by rw [tx_size]; simp), by omega, by omega, ?_⟩
      rw [q42]; simp (contextual := true) (implicitDefEqProofs := false) (decide := true) (maxSteps := 1000000) only [x42, go_sem, h2, h3, hb, hp1, hp2, hk, e, l1, l2, l3, l4, w1, n0, n1, n4, m0, m1, m4]
theorem jT_size : ∀ (L : List Deed) (acc : ByteArray), ShT L → (jT acc L).size ≤ acc.size + L.length * 108
  | [], acc, _ => by simp [jT]
  | x :: r, acc, h => by
    have h1 := dB_size x
    have h2 := h x List.mem_cons_self
    have ih := jT_size r (acc ++ dB x ++ tx [10]) (fun a ha => h a (List.mem_cons_of_mem _ ha))
    unfold jT
    split
    · simp only [List.length_cons]; omega
    · rw [ByteArray.size_append, ByteArray.size_append, tx_size] at ih
      simp only [List.length_cons, List.length_nil] at ih ⊢
      omega
theorem jTo_size (L : List Deed) (h : ShT L) : (jTo L).size ≤ L.length * 108 := by
  unfold jTo
  have := jT_size L (tx []) h
  rw [tx_size] at this
  cases jN L
  · show (tx []).size ≤ _
    rw [tx_size]; simp
  · simpa using this
theorem e8 (b : List Int) (hb : ∀ x ∈ b, 0 ≤ x ∧ x ≤ 255) (hl : b.length ≤ room) : ∃ s : ByteArray, s.size ≤ 700 ∧
    CF E 8 [.p (.ls 1 (b.map u8))] [] = some ⟨.p (.str s), [], []⟩ := by
  have hr := Rdr.open hb
  have eo := e38 b hl
  have z0 : ((0 : Nat) : Int) = 0 := rfl
  obtain ⟨W, q, w1, w2, w3, w4, w5, w6⟩ := e40 (b.take 2000) 0 hr (by omega)
  rw [z0] at w6 eo
  generalize b.take 2000 = B at *
  have eJ := e39 W (by omega) (fun a ha => by have := w1 a ha; omega)
  have hz := jTo_size W w1
  have hz2 : (jTo W).size ≤ 648 := by omega
  generalize jTo W = s at *
  have hq : q ≤ 1000000 := by omega
  have hq1 : q + 1 ≤ 1000000 := by omega
  have hv := pk_bd (p := q) (n := 3) hr (by omega) (by omega)
  have : pk B q 3 = 0 ∨ pk B q 3 = 1 ∨ pk B q 3 = 2 := by omega
  rcases this with e | e | e
  · obtain ⟨r, q2, r1, r2, r3, r4⟩ := e42 B (q + 1) s hr (by omega) (by omega)
    refine ⟨r, by omega, ?_⟩
    rw [q8]; simp (contextual := true) (implicitDefEqProofs := false) (decide := true) (maxSteps := 1000000) only [x8, go_sem, eo, w6, eJ, hr, hq, e, r4]
  · by_cases hm : ¬ ((250 : Int) < s.size)
    · have hu := pk_bd (p := q + 1) (n := ((s.size + 1 : Nat) : Int)) hr (by omega) (by omega)
      obtain ⟨k, hk⟩ := Int.eq_ofNat_of_zero_le hu.1
      have w := w64s (n := s.size) (by omega)
      have n1 : (1 : Int) ≤ ((s.size + 1 : Nat) : Int) := by omega
      rw [hk] at hu
      have l1 : (0 : Int) ≤ (k : Int) := by omega
      have l2 : (k : Int) ≤ s.size := by omega
      refine ⟨s.extract 0 k, by rw [ByteArray.size_extract]; omega, ?_⟩
      rw [q8]; simp (contextual := true) (implicitDefEqProofs := false) (decide := true) (maxSteps := 1000000) only [x8, go_sem, eo, w6, eJ, hr, hq, hq1, e, hm, w, n1, hk, l1, l2]
    · have hm : ((250 : Int) < s.size) := by omega
      have hu := pk_bd (p := q + 1) (n := 251) hr (by omega) (by omega)
      obtain ⟨k, hk⟩ := Int.eq_ofNat_of_zero_le hu.1
      rw [hk] at hu
      have l1 : (0 : Int) ≤ (k : Int) := by omega
      have l2 : (k : Int) ≤ s.size := by omega
      refine ⟨s.extract 0 k, by rw [ByteArray.size_extract]; omega, ?_⟩
      rw [q8]; simp (contextual := true) (implicitDefEqProofs := false) (decide := true) (maxSteps := 1000000) only [x8, go_sem, eo, w6, eJ, hr, hq, hq1, e, hm, hk, l1, l2]
  · refine ⟨s, by omega, ?_⟩
    rw [q8]; simp (contextual := true) (implicitDefEqProofs := false) (decide := true) (maxSteps := 1000000) only [x8, go_sem, eo, w6, eJ, hr, hq, e]
end Go.Proofs.YtjlebmnlphjjoaaGreatDoor.Fx
