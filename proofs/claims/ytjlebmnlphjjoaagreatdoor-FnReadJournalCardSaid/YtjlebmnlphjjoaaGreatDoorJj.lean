import Derived.Test.YtjlebmnlphjjoaaGreatDoorJh
import Derived.Test.YtjlebmnlphjjoaaGreatDoorJi
set_option linter.unusedVariables false
set_option linter.unusedSimpArgs false
/- The law ReadJournal; no condition. -/
open Go Go.Proofs.YtjlebmnlphjjoaaGreatDoor.Abs
namespace Go.Proofs.YtjlebmnlphjjoaaGreatDoor.Fx
set_option maxRecDepth 100000
set_option maxHeartbeats 8000000
set_option linter.unusedSimpArgs false
set_option linter.unusedVariables false
theorem lpA3 (more : List Int) (s : ByteArray) (hs : s.size ≤ 1000) (L : List Deed) (hL : (rj s).1 = L) (hl : L.length ≤ 1000) (n : Nat) (b : AC) (hb : b = lb x3.1 0) : ∀ (m k : Nat), k + m = s.size + 1 →
   CL E [1, 5, 6, 7, 10] [1, 4, 5, 6, 7] b ⟨mkT [(1, .p (.ls 1 (more.map u8))), (5, .p (.str s)), (6, .p (.ls 3 (L.map deed))), (7, .p (.int .i64 n)), (10, .p (.int .i64 k))], mkS []⟩ =
    some (.ex 0, ⟨mkT [(1, .p (.ls 1 (more.map u8))), (4, .un), (5, .p (.str s)), (6, .p (.ls 3 (L.map deed))), (7, .p (.int .i64 n))], mkS []⟩) := by
  simp only [x3, go_sem] at hb; subst hb
  intro m; induction m with
  | zero =>
    intro k hk
    have h2 : ¬ ((k : Int) ≤ s.size) := by omega
    rw [loop_eq]; simp (contextual := true) (implicitDefEqProofs := false) (decide := true) (maxSteps := 1000000) only [go_sem, h2]
  | succ m ih =>
    intro k hk
    have h5 : ((k : Int) ≤ s.size) := by omega
    have h6 := w64s (n := k) (by omega)
    have ih := ih (k + 1) (by omega)
    have l1 : (0 : Int) ≤ (k : Int) := by omega
    have hz : (s.extract 0 k).size = k := by rw [ByteArray.size_extract]; omega
    have hr := e9 (s.extract 0 k) (by omega)
    obtain ⟨⟨R, c1⟩, c2⟩ := rj_cut (s.size + 1) s k ((s.extract 0 k).size + 1) (by omega) (by omega) (by omega)
    change (rj s).1 = (rj (s.extract 0 k)).1 ++ R at c1
    change (rj (s.extract 0 k)).2 ≤ k at c2
    rw [hL] at c1
    generalize rj (s.extract 0 k) = x at hr c1 c2
    have hxl : x.1.length ≤ L.length := by rw [c1, List.length_append]; omega
    have m1 : List.take x.1.length (L.map deed) = x.1.map deed := by rw [c1, List.map_append, List.take_left' (by simp)]
    have n1 : ¬ ((x.1.length : Int) > L.length) := by omega
    have n2 : ¬ ((L.length : Int) < x.1.length) := by omega
    have n3 : ((x.1.length : Int) ≤ L.length) := by omega
    have n4 : ¬ ((x.2 : Int) > k) := by omega
    have n5 : (0 : Int) ≤ (x.1.length : Int) := by omega
    have n6 : x.1.length ≤ 100000 := by omega
    rw [← ih]
    rw [loop_eq]; simp (contextual := true) (implicitDefEqProofs := false) (decide := true) (maxSteps := 1000000) only [go_sem, h5, h6, l1, hr, n1, n2, n3, n4, n5, n6, m1]
theorem lpB3 (s : ByteArray) (L : List Deed) (hl : L.length ≤ 1000) (hL : ∀ a ∈ L, dB a ≠ tx [] ∧ a.t.size ≤ 1000) (n : Nat) (d0 : Desk) (h0 : deskOk d0 = true) (b : AC) (hb : b = lb x3.1 1) : ∀ (l : List Deed) (i : Nat) (d : Desk), L.drop i = l → deskOk d = true →
   CL E [5, 6, 7, 13, 15, 16] [4, 5, 6, 7, 13, 15] b ⟨mkT [(5, .p (.str s)), (6, .p (.ls 3 (L.map deed))), (7, .p (.int .i64 n)), (13, .mp 13 0 0 0), (15, .mp 15 0 0 0), (16, .p (.int .i64 i))], mkS [(13, [.p (.agg [.ls 3 (d0.now.map say), .ls 1 (d0.past.map row)])]), (15, [.p (.agg [.ls 3 (d.now.map say), .ls 1 (d.past.map row)])])]⟩ =
    some (.ex 2, ⟨mkT [(4, .un), (5, .p (.str s)), (6, .p (.ls 3 (L.map deed))), (7, .p (.int .i64 n)), (13, .mp 13 0 0 0), (15, .mp 15 0 0 0)], mkS [(13, [.p (.agg [.ls 3 (d0.now.map say), .ls 1 (d0.past.map row)])]), (15, [.p (.agg [.ls 3 ((rnD d l).now.map say), .ls 1 ((rnD d l).past.map row)])])]⟩) := by
  simp only [x3, go_sem] at hb; subst hb
  have hv := e13 d0 (deskOk_sz h0)
  rw [h0] at hv
  intro l; induction l with
  | nil =>
    intro i d hi hd; have h1 := dropn hi
    have h2 : ¬ ((i : Int) < L.length) := by omega
    rw [loop_eq]; simp (contextual := true) (implicitDefEqProofs := false) (decide := true) (maxSteps := 1000000) only [go_sem, h2, rnD, List.foldl]
  | cons a l ih =>
    intro i d hi hd; obtain ⟨h1, h2, h3, h4⟩ := dropc hi
    have h5 : ((i : Int) < L.length) := by omega
    have h6 := w64s (n := i) (by omega)
    obtain ⟨a1, a2⟩ := hL a (List.mem_of_getElem? h2)
    have a3 := dB_size a
    have a4 : a.t.size ≤ room := by unfold room; omega
    have hl := e14 d a hd a1 (by unfold room; omega)
    have ht : CF E 15 [.p (.agg [.int .i64 a.k, .int .i64 a.n, .str a.t])] [] = some ⟨.p (.str (dB a)), [], []⟩ := by
      have e : dB a = dB ⟨a.k, a.n, a.t⟩ := rfl
      rw [q15]; simp (contextual := true) (implicitDefEqProofs := false) (decide := true) (maxSteps := 1000000) only [x15, go_sem, a4]
    have ih := ih (i + 1) _ h3 (getD_ok a hd)
    have e : rnD d (a :: l) = rnD ((deskDo d a).getD d) l := rfl
    rw [e]
    generalize (deskDo d a).getD d = d' at *
    generalize rnD d' l = dd at *
    have e1 : ¬ ((tx [110, 111]) = (tx [111, 107])) := fun e => by
      have := congrArg (fun b => b.data.toList) e
      simp only [tx_list] at this
      exact absurd this (by decide +kernel)
    have e2 : ¬ ((tx [111, 107]) = (tx [110, 111])) := fun e => e1 e.symm
    cases ho : (deskDo d a).isSome with
    | false =>
      rw [ho] at hl
      unfold okT at hl
      rw [if_neg (by decide)] at hl
      rw [← ih]
      rw [loop_eq]; simp (contextual := true) (implicitDefEqProofs := false) (decide := true) (maxSteps := 1000000) only [go_sem, h2, h5, h6, hv, deed, ht, hl, e1, e2]
    | true =>
      rw [ho] at hl
      unfold okT at hl
      rw [if_pos rfl] at hl
      rw [← ih]
      rw [loop_eq]; simp (contextual := true) (implicitDefEqProofs := false) (decide := true) (maxSteps := 1000000) only [go_sem, h2, h5, h6, hv, deed, ht, hl, e1, e2]
theorem lpC3 (s : ByteArray) (L : List Deed) (n : Nat) (d0 : Desk) (hs : Sz d0) (h0 : deskOk d0 = false) (b : AC) (hb : b = lb x3.1 1) :
   CL E [5, 6, 7, 13, 15, 16] [4, 5, 6, 7, 13, 15] b ⟨mkT [(5, .p (.str s)), (6, .p (.ls 3 (L.map deed))), (7, .p (.int .i64 n)), (13, .mp 13 0 0 0), (15, .mp 15 0 0 0), (16, .p (.int .i64 0))], mkS [(13, [.p (.agg [.ls 3 (d0.now.map say), .ls 1 (d0.past.map row)])]), (15, [.p (.agg [.ls 3 (d0.now.map say), .ls 1 (d0.past.map row)])])]⟩ =
    some (.ex 2, ⟨mkT [(4, .un), (5, .p (.str s)), (6, .p (.ls 3 (L.map deed))), (7, .p (.int .i64 n)), (13, .mp 13 0 0 0), (15, .mp 15 0 0 0)], mkS [(13, [.p (.agg [.ls 3 (d0.now.map say), .ls 1 (d0.past.map row)])]), (15, [.p (.agg [.ls 3 (d0.now.map say), .ls 1 (d0.past.map row)])])]⟩) := by
  simp only [x3, go_sem] at hb; subst hb
  have hv := e13 d0 hs
  rw [h0] at hv
  by_cases h : ((0 : Int) < L.length)
  · rw [loop_eq]; simp (contextual := true) (implicitDefEqProofs := false) (decide := true) (maxSteps := 1000000) only [go_sem, h, hv]
  · rw [loop_eq]; simp (contextual := true) (implicitDefEqProofs := false) (decide := true) (maxSteps := 1000000) only [go_sem, h, hv]
theorem law3 (b c : List Int) (hb : ∀ x ∈ b, 0 ≤ x ∧ x ≤ 255) (hc : ∀ x ∈ c, 0 ≤ x ∧ x ≤ 255) : CF E 3 [.p (.ls 1 (b.map u8)), .p (.ls 1 (c.map u8))] [] = some ⟨.p (.bool true), [], []⟩ := by
  by_cases hlen : (b.length : Int) > 1048576
  · rw [q3]; simp (contextual := true) (implicitDefEqProofs := false) (decide := true) (maxSteps := 1000000) only [x3, go_sem, hlen]
  by_cases clen : (c.length : Int) > 1048576
  · rw [q3]; simp (contextual := true) (implicitDefEqProofs := false) (decide := true) (maxSteps := 1000000) only [x3, go_sem, hlen, clen]
  have hl : b.length ≤ room := by unfold room; omega
  have cl : c.length ≤ room := by unfold room; omega
  obtain ⟨s, hs, e1⟩ := e8 b hb hl
  have e2 := e9 s (by omega)
  have e3 := e10 s (by omega)
  obtain ⟨t1, t2, t3, t4, t5⟩ := rj_text (s.size + 1) s
  change (rj s).2 ≤ s.size at t1
  change (rj s).1.length ≤ (rj s).2 at t2
  change jN (rj s).1 = true at t3
  change jT (tx []) (rj s).1 = s.extract 0 (rj s).2 at t4
  change ∀ a ∈ (rj s).1, dB a ≠ tx [] ∧ a.t.size ≤ s.size at t5
  generalize hr : rj s = r at e2 e3 t1 t2 t3 t4 t5
  obtain ⟨L, n⟩ := r
  simp only at e2 e3 t1 t2 t3 t4 t5
  have hL1 : L.length ≤ 1000 := by omega
  have hL2 : L.length ≤ 100000 := by omega
  have L0 := lpA3 c s (by omega) L (by rw [hr]) hL1 n _ rfl (s.size + 1) 0 (by omega)
  have eT := e17 L hL2 (fun a ha => by have := (t5 a ha).2; omega)
  have eT2 : jTo L = s.extract 0 n := by unfold jTo; rw [t3, ← t4]; rfl
  rw [eT2] at eT
  obtain ⟨d, M, hd, hM, e4⟩ := e12 c hc cl
  have hsz := hd.sz
  have ev := e13 d hsz
  have eR := e16 d L hsz
  have g1 : (n : Int) ≤ s.size := by omega
  have g2 : (0 : Int) ≤ (n : Int) := by omega
  have z0 : ((0 : Nat) : Int) = 0 := rfl
  rw [z0] at L0
  simp (contextual := true) (implicitDefEqProofs := false) (decide := true) (maxSteps := 1000000) only [x3, go_sem] at L0
  cases hv : deskOk d with
  | false =>
    rw [hv] at ev
    have L1 := lpC3 s L n d hsz hv _ rfl
    simp (contextual := true) (implicitDefEqProofs := false) (decide := true) (maxSteps := 1000000) only [x3, go_sem] at L1
    rw [q3]; simp (contextual := true) (implicitDefEqProofs := false) (decide := true) (maxSteps := 1000000) only [x3, go_sem, hlen, clen, e1, e2, e3, hL2, L0, e4, L1, eR, ev, eT, g1, g2]
  | true =>
    rw [hv] at ev
    have L1 := lpB3 s L hL1 (fun a ha => ⟨(t5 a ha).1, by have := (t5 a ha).2; omega⟩) n d hv _ rfl L 0 d rfl hv
    rw [z0] at L1
    simp (contextual := true) (implicitDefEqProofs := false) (decide := true) (maxSteps := 1000000) only [x3, go_sem] at L1
    by_cases h40 : L.length ≤ 40
    · have n40 : ¬ ((L.length : Int) > 40) := by omega
      have c1 : rD d L = rnD d L := if_pos ⟨hv, h40⟩
      have hok := deskOk_sz (rnD_ok L hv)
      rw [c1] at eR
      have eS := e18 (rnD d L) (rnD d L) hok hok
      rw [q3]; simp (contextual := true) (implicitDefEqProofs := false) (decide := true) (maxSteps := 1000000) only [x3, go_sem, hlen, clen, e1, e2, e3, hL2, L0, e4, L1, eR, ev, eT, g1, g2, n40, eS]
    · have n40 : ((L.length : Int) > 40) := by omega
      rw [q3]; simp (contextual := true) (implicitDefEqProofs := false) (decide := true) (maxSteps := 1000000) only [x3, go_sem, hlen, clen, e1, e2, e3, hL2, L0, e4, L1, eR, ev, eT, g1, g2, n40]
end Go.Proofs.YtjlebmnlphjjoaaGreatDoor.Fx
