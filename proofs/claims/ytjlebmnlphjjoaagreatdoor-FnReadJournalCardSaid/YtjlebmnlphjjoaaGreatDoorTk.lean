import Derived.Test.YtjlebmnlphjjoaaGreatDoorTj
set_option linter.unusedVariables false
set_option linter.unusedSimpArgs false
/- A drawn desk; no condition. -/
open Go Go.Proofs.YtjlebmnlphjjoaaGreatDoor.Abs
namespace Go.Proofs.YtjlebmnlphjjoaaGreatDoor.Fx
set_option maxRecDepth 100000
set_option maxHeartbeats 8000000
set_option linter.unusedSimpArgs false
set_option linter.unusedVariables false
theorem eDN : CF E 81 [.p (.ls 3 [])] [] = some ⟨.ag [.ms 950 0 0 0 3, .p .nls], [], [[]]⟩ := by
  have e := e49 [] (room_ge (by simp))
  simp (contextual := true) (implicitDefEqProofs := false) (decide := true) (maxSteps := 1000000) only [go_sem] at e
  have : rowOk [] = true := rfl
  rw [q81]; simp (contextual := true) (implicitDefEqProofs := false) (decide := true) (maxSteps := 1000000) only [x81, go_sem, e, this, room_ge]
/-- What is known of a drawn desk. -/
def Sm (d : Desk) : Prop := d.now.length ≤ 6 ∧ d.past.length ≤ 7 ∧ ∀ r ∈ d.past, r.length ≤ 6
theorem Sm.sz {d : Desk} (h : Sm d) : Sz d := ⟨room_ge (by have := h.1; omega), room_ge (by have := h.2.1; omega), fun r hr => room_ge (by have := h.2.2 r hr; omega)⟩
def DrD (b : List Int) (p : Nat) (N : Int) : Prop := ∃ (d : Desk) (q : Nat), Sm d ∧ p ≤ q ∧ q ≤ p + 80 ∧
  CF E 46 [.mp 900 0 0 0, .p (.int .i64 N)] [[.agg [.ls 1 (b.map u8), .int .i64 p]]] = some ⟨.p (.agg [.ls 3 (d.now.map say), .ls 1 (d.past.map row)]), [[.agg [.ls 1 (b.map u8), .int .i64 (q : Nat)]]], []⟩
theorem tz046 (N : Int) (b : List Int) (p0 p k : Nat) (hb : Rdr b) (hp0 : p0 ≤ 1000000) (hp : p0 ≤ p ∧ p ≤ p0 + 70) (hp1 : p ≤ 900000) (n : List Say) (g : n.length ≤ 5) (hk : pk b p0 7 = (k : Int)) (hN : N = 0)
    (L0 : CL E [0, 1, 4, 5, 6] [0, 1, 4, 5] (lb x46.1 0) ⟨mkT [(0, .mp 900 0 0 0), (1, .p (.int .i64 N)), (4, .mp 4 0 0 0), (5, .mp 5 0 0 0), (6, .p (.int .i64 (k : Nat)))], SD b (p0 + 1) [] [] false⟩ = some (.ex 0, ⟨mkT [(0, .mp 900 0 0 0), (1, .p (.int .i64 N)), (4, .mp 4 0 0 0), (5, .mp 5 0 0 0)], SD b p n [] false⟩)) : DrD b p0 N := by
  subst hN
  simp (contextual := true) (implicitDefEqProofs := false) (decide := true) (maxSteps := 1000000) only [SD, hdK, rwK, List.isEmpty, List.length_cons, List.length_nil, Nat.reduceMul, Nat.reduceAdd, Nat.zero_add, Bool.and_true, Bool.and_false, Bool.true_and, Bool.false_and, Bool.not_true, Bool.not_false, cond_true, cond_false, List.append_nil, List.nil_append, List.cons_append, List.map_nil, x46, go_sem] at L0
  refine ⟨⟨n, []⟩, p, ⟨by simp only []; omega, by simp, by simp⟩, by omega, by omega, ?_⟩
  rw [q46]; simp (contextual := true) (implicitDefEqProofs := false) (decide := true) (maxSteps := 1000000) only [x46, go_sem, eDN, hb, hp0, hk, L0, room_ge, apK_grow, row, apK_in]
theorem tl046 (N : Int) (b : List Int) (p0 p k : Nat) (hb : Rdr b) (hp0 : p0 ≤ 1000000) (hp : p0 ≤ p ∧ p ≤ p0 + 70) (hp1 : p ≤ 900000) (n : List Say) (g : n.length ≤ 5) (hk : pk b p0 7 = (k : Int)) (hN : N = 12)
    (L0 : CL E [0, 1, 4, 5, 6] [0, 1, 4, 5] (lb x46.1 0) ⟨mkT [(0, .mp 900 0 0 0), (1, .p (.int .i64 N)), (4, .mp 4 0 0 0), (5, .mp 5 0 0 0), (6, .p (.int .i64 (k : Nat)))], SD b (p0 + 1) [] [] false⟩ = some (.ex 0, ⟨mkT [(0, .mp 900 0 0 0), (1, .p (.int .i64 N)), (4, .mp 4 0 0 0), (5, .mp 5 0 0 0)], SD b p n [] false⟩)) : DrD b p0 N := by
  subst hN
  simp (contextual := true) (implicitDefEqProofs := false) (decide := true) (maxSteps := 1000000) only [SD, hdK, rwK, List.isEmpty, List.length_cons, List.length_nil, Nat.reduceMul, Nat.reduceAdd, Nat.zero_add, Bool.and_true, Bool.and_false, Bool.true_and, Bool.false_and, Bool.not_true, Bool.not_false, cond_true, cond_false, List.append_nil, List.nil_append, List.cons_append, List.map_nil, x46, go_sem] at L0
  have G := room_ge (n := n.length) (by omega)
  have G' := room_ge (n := n.length + 1) (by omega)
  have h1 : p ≤ 1000000 := by omega
  have h2 : p + 1 ≤ 1000000 := by omega
  cases ho : od b p 12 with
  | false =>
    refine ⟨⟨n, []⟩, p + 1, ⟨by simp only []; omega, by simp, by simp⟩, by omega, by omega, ?_⟩
    rw [q46]; simp (contextual := true) (implicitDefEqProofs := false) (decide := true) (maxSteps := 1000000) only [x46, go_sem, eDN, hb, hp0, hk, L0, room_ge, apK_grow, row, apK_in, h1, ho]
  | true =>
    have hv := pk_bd (p := p + 1) (n := 3) hb h2 (by omega)
    by_cases v0 : pk b (p + 1) 3 = 0
    · refine ⟨⟨n ++ [⟨9, 0, 0⟩], []⟩, p + 1 + 1, ⟨by simp; omega, by simp, by simp⟩, by omega, by omega, ?_⟩
      rw [q46]; simp (contextual := true) (implicitDefEqProofs := false) (decide := true) (maxSteps := 1000000) only [x46, go_sem, eDN, hb, hp0, hk, L0, room_ge, apK_grow, row, apK_in, h1, h2, ho, v0, G, G', say]
    · by_cases v1 : pk b (p + 1) 3 = 1
      · refine ⟨⟨n, [] ++ [[⟨0, 0, 0⟩, ⟨0, 0, 0⟩]]⟩, p + 1 + 1, ⟨by simp only []; omega, by simp, by simp⟩, by omega, by omega, ?_⟩
        rw [q46]; simp (contextual := true) (implicitDefEqProofs := false) (decide := true) (maxSteps := 1000000) only [x46, go_sem, eDN, hb, hp0, hk, L0, room_ge, apK_grow, row, apK_in, h1, h2, ho, v0, v1, G, G', say]
      · refine ⟨⟨List.replicate 6 ⟨0, 0, 0⟩, []⟩, p + 1 + 1, ⟨by simp, by simp, by simp⟩, by omega, by omega, ?_⟩
        rw [q46]; simp (contextual := true) (implicitDefEqProofs := false) (decide := true) (maxSteps := 1000000) only [x46, go_sem, eDN, hb, hp0, hk, L0, room_ge, apK_grow, row, apK_in, h1, h2, ho, v0, v1, G, G', say]
theorem tz0s46 (N : Int) (b : List Int) (p0 p k : Nat) (hb : Rdr b) (hp0 : p0 ≤ 1000000) (hp : p0 ≤ p ∧ p ≤ p0 + 70) (hp1 : p ≤ 900000) (n : List Say) (g : n.length ≤ 5) (hk : pk b p0 7 = (k : Int)) (hN : N = 0)
    (L0 : CL E [0, 1, 4, 5, 6] [0, 1, 4, 5] (lb x46.1 0) ⟨mkT [(0, .mp 900 0 0 0), (1, .p (.int .i64 N)), (4, .mp 4 0 0 0), (5, .mp 5 0 0 0), (6, .p (.int .i64 (k : Nat)))], SD b (p0 + 1) [] [] false⟩ = some (.ex 0, ⟨mkT [(0, .mp 900 0 0 0), (1, .p (.int .i64 N)), (4, .mp 4 0 0 0), (5, .mp 5 0 0 0)], SD b p n [] true⟩)) : DrD b p0 N := by
  subst hN
  simp (contextual := true) (implicitDefEqProofs := false) (decide := true) (maxSteps := 1000000) only [SD, hdK, rwK, List.isEmpty, List.length_cons, List.length_nil, Nat.reduceMul, Nat.reduceAdd, Nat.zero_add, Bool.and_true, Bool.and_false, Bool.true_and, Bool.false_and, Bool.not_true, Bool.not_false, cond_true, cond_false, List.append_nil, List.nil_append, List.cons_append, List.map_nil, x46, go_sem] at L0
  refine ⟨⟨n, []⟩, p, ⟨by simp only []; omega, by simp, by simp⟩, by omega, by omega, ?_⟩
  rw [q46]; simp (contextual := true) (implicitDefEqProofs := false) (decide := true) (maxSteps := 1000000) only [x46, go_sem, eDN, hb, hp0, hk, L0, room_ge, apK_grow, row, apK_in]
theorem tl0s46 (N : Int) (b : List Int) (p0 p k : Nat) (hb : Rdr b) (hp0 : p0 ≤ 1000000) (hp : p0 ≤ p ∧ p ≤ p0 + 70) (hp1 : p ≤ 900000) (n : List Say) (g : n.length ≤ 5) (hk : pk b p0 7 = (k : Int)) (hN : N = 12)
    (L0 : CL E [0, 1, 4, 5, 6] [0, 1, 4, 5] (lb x46.1 0) ⟨mkT [(0, .mp 900 0 0 0), (1, .p (.int .i64 N)), (4, .mp 4 0 0 0), (5, .mp 5 0 0 0), (6, .p (.int .i64 (k : Nat)))], SD b (p0 + 1) [] [] false⟩ = some (.ex 0, ⟨mkT [(0, .mp 900 0 0 0), (1, .p (.int .i64 N)), (4, .mp 4 0 0 0), (5, .mp 5 0 0 0)], SD b p n [] true⟩)) : DrD b p0 N := by
  subst hN
  simp (contextual := true) (implicitDefEqProofs := false) (decide := true) (maxSteps := 1000000) only [SD, hdK, rwK, List.isEmpty, List.length_cons, List.length_nil, Nat.reduceMul, Nat.reduceAdd, Nat.zero_add, Bool.and_true, Bool.and_false, Bool.true_and, Bool.false_and, Bool.not_true, Bool.not_false, cond_true, cond_false, List.append_nil, List.nil_append, List.cons_append, List.map_nil, x46, go_sem] at L0
  have G := room_ge (n := n.length) (by omega)
  have G' := room_ge (n := n.length + 1) (by omega)
  have h1 : p ≤ 1000000 := by omega
  have h2 : p + 1 ≤ 1000000 := by omega
  cases ho : od b p 12 with
  | false =>
    refine ⟨⟨n, []⟩, p + 1, ⟨by simp only []; omega, by simp, by simp⟩, by omega, by omega, ?_⟩
    rw [q46]; simp (contextual := true) (implicitDefEqProofs := false) (decide := true) (maxSteps := 1000000) only [x46, go_sem, eDN, hb, hp0, hk, L0, room_ge, apK_grow, row, apK_in, h1, ho]
  | true =>
    have hv := pk_bd (p := p + 1) (n := 3) hb h2 (by omega)
    by_cases v0 : pk b (p + 1) 3 = 0
    · refine ⟨⟨n ++ [⟨9, 0, 0⟩], []⟩, p + 1 + 1, ⟨by simp; omega, by simp, by simp⟩, by omega, by omega, ?_⟩
      rw [q46]; simp (contextual := true) (implicitDefEqProofs := false) (decide := true) (maxSteps := 1000000) only [x46, go_sem, eDN, hb, hp0, hk, L0, room_ge, apK_grow, row, apK_in, h1, h2, ho, v0, G, G', say]
    · by_cases v1 : pk b (p + 1) 3 = 1
      · refine ⟨⟨n, [] ++ [[⟨0, 0, 0⟩, ⟨0, 0, 0⟩]]⟩, p + 1 + 1, ⟨by simp only []; omega, by simp, by simp⟩, by omega, by omega, ?_⟩
        rw [q46]; simp (contextual := true) (implicitDefEqProofs := false) (decide := true) (maxSteps := 1000000) only [x46, go_sem, eDN, hb, hp0, hk, L0, room_ge, apK_grow, row, apK_in, h1, h2, ho, v0, v1, G, G', say]
      · refine ⟨⟨List.replicate 6 ⟨0, 0, 0⟩, []⟩, p + 1 + 1, ⟨by simp, by simp, by simp⟩, by omega, by omega, ?_⟩
        rw [q46]; simp (contextual := true) (implicitDefEqProofs := false) (decide := true) (maxSteps := 1000000) only [x46, go_sem, eDN, hb, hp0, hk, L0, room_ge, apK_grow, row, apK_in, h1, h2, ho, v0, v1, G, G', say]
theorem tz146 (N : Int) (b : List Int) (p0 p k : Nat) (hb : Rdr b) (hp0 : p0 ≤ 1000000) (hp : p0 ≤ p ∧ p ≤ p0 + 70) (hp1 : p ≤ 900000) (n : List Say) (r0 : List Say) (g : n.length ≤ 5) (g0 : r0.length ≤ 5) (hk : pk b p0 7 = (k : Int)) (hN : N = 0)
    (L0 : CL E [0, 1, 4, 5, 6] [0, 1, 4, 5] (lb x46.1 0) ⟨mkT [(0, .mp 900 0 0 0), (1, .p (.int .i64 N)), (4, .mp 4 0 0 0), (5, .mp 5 0 0 0), (6, .p (.int .i64 (k : Nat)))], SD b (p0 + 1) [] [] false⟩ = some (.ex 0, ⟨mkT [(0, .mp 900 0 0 0), (1, .p (.int .i64 N)), (4, .mp 4 0 0 0), (5, .mp 5 0 0 0)], SD b p n [r0] false⟩)) : DrD b p0 N := by
  subst hN
  simp (contextual := true) (implicitDefEqProofs := false) (decide := true) (maxSteps := 1000000) only [SD, hdK, rwK, List.isEmpty, List.length_cons, List.length_nil, Nat.reduceMul, Nat.reduceAdd, Nat.zero_add, Bool.and_true, Bool.and_false, Bool.true_and, Bool.false_and, Bool.not_true, Bool.not_false, cond_true, cond_false, List.append_nil, List.nil_append, List.cons_append, List.map_nil, x46, go_sem] at L0
  have G0 := room_ge (n := r0.length) (by omega)
  refine ⟨⟨n, [r0]⟩, p, ⟨by simp only []; omega, by simp, by simp [or_imp, forall_and]; omega⟩, by omega, by omega, ?_⟩
  rw [q46]; simp (contextual := true) (implicitDefEqProofs := false) (decide := true) (maxSteps := 1000000) only [x46, go_sem, eDN, hb, hp0, hk, L0, room_ge, apK_grow, row, apK_in, G0]
theorem tl146 (N : Int) (b : List Int) (p0 p k : Nat) (hb : Rdr b) (hp0 : p0 ≤ 1000000) (hp : p0 ≤ p ∧ p ≤ p0 + 70) (hp1 : p ≤ 900000) (n : List Say) (r0 : List Say) (g : n.length ≤ 5) (g0 : r0.length ≤ 5) (hk : pk b p0 7 = (k : Int)) (hN : N = 12)
    (L0 : CL E [0, 1, 4, 5, 6] [0, 1, 4, 5] (lb x46.1 0) ⟨mkT [(0, .mp 900 0 0 0), (1, .p (.int .i64 N)), (4, .mp 4 0 0 0), (5, .mp 5 0 0 0), (6, .p (.int .i64 (k : Nat)))], SD b (p0 + 1) [] [] false⟩ = some (.ex 0, ⟨mkT [(0, .mp 900 0 0 0), (1, .p (.int .i64 N)), (4, .mp 4 0 0 0), (5, .mp 5 0 0 0)], SD b p n [r0] false⟩)) : DrD b p0 N := by
  subst hN
  simp (contextual := true) (implicitDefEqProofs := false) (decide := true) (maxSteps := 1000000) only [SD, hdK, rwK, List.isEmpty, List.length_cons, List.length_nil, Nat.reduceMul, Nat.reduceAdd, Nat.zero_add, Bool.and_true, Bool.and_false, Bool.true_and, Bool.false_and, Bool.not_true, Bool.not_false, cond_true, cond_false, List.append_nil, List.nil_append, List.cons_append, List.map_nil, x46, go_sem] at L0
  have G0 := room_ge (n := r0.length) (by omega)
  have G := room_ge (n := n.length) (by omega)
  have G' := room_ge (n := n.length + 1) (by omega)
  have h1 : p ≤ 1000000 := by omega
  have h2 : p + 1 ≤ 1000000 := by omega
  cases ho : od b p 12 with
  | false =>
    refine ⟨⟨n, [r0]⟩, p + 1, ⟨by simp only []; omega, by simp, by simp [or_imp, forall_and]; omega⟩, by omega, by omega, ?_⟩
    rw [q46]; simp (contextual := true) (implicitDefEqProofs := false) (decide := true) (maxSteps := 1000000) only [x46, go_sem, eDN, hb, hp0, hk, L0, room_ge, apK_grow, row, apK_in, G0, h1, ho]
  | true =>
    have hv := pk_bd (p := p + 1) (n := 3) hb h2 (by omega)
    by_cases v0 : pk b (p + 1) 3 = 0
    · refine ⟨⟨n ++ [⟨9, 0, 0⟩], [r0]⟩, p + 1 + 1, ⟨by simp; omega, by simp, by simp [or_imp, forall_and]; omega⟩, by omega, by omega, ?_⟩
      rw [q46]; simp (contextual := true) (implicitDefEqProofs := false) (decide := true) (maxSteps := 1000000) only [x46, go_sem, eDN, hb, hp0, hk, L0, room_ge, apK_grow, row, apK_in, G0, h1, h2, ho, v0, G, G', say]
    · by_cases v1 : pk b (p + 1) 3 = 1
      · refine ⟨⟨n, [r0] ++ [[⟨0, 0, 0⟩, ⟨0, 0, 0⟩]]⟩, p + 1 + 1, ⟨by simp only []; omega, by simp, by simp [or_imp, forall_and]; omega⟩, by omega, by omega, ?_⟩
        rw [q46]; simp (contextual := true) (implicitDefEqProofs := false) (decide := true) (maxSteps := 1000000) only [x46, go_sem, eDN, hb, hp0, hk, L0, room_ge, apK_grow, row, apK_in, G0, h1, h2, ho, v0, v1, G, G', say]
      · refine ⟨⟨List.replicate 6 ⟨0, 0, 0⟩, [r0]⟩, p + 1 + 1, ⟨by simp, by simp, by simp [or_imp, forall_and]; omega⟩, by omega, by omega, ?_⟩
        rw [q46]; simp (contextual := true) (implicitDefEqProofs := false) (decide := true) (maxSteps := 1000000) only [x46, go_sem, eDN, hb, hp0, hk, L0, room_ge, apK_grow, row, apK_in, G0, h1, h2, ho, v0, v1, G, G', say]
theorem tz1s46 (N : Int) (b : List Int) (p0 p k : Nat) (hb : Rdr b) (hp0 : p0 ≤ 1000000) (hp : p0 ≤ p ∧ p ≤ p0 + 70) (hp1 : p ≤ 900000) (n : List Say) (r0 : List Say) (g : n.length ≤ 5) (g0 : r0.length ≤ 5) (hk : pk b p0 7 = (k : Int)) (hN : N = 0)
    (L0 : CL E [0, 1, 4, 5, 6] [0, 1, 4, 5] (lb x46.1 0) ⟨mkT [(0, .mp 900 0 0 0), (1, .p (.int .i64 N)), (4, .mp 4 0 0 0), (5, .mp 5 0 0 0), (6, .p (.int .i64 (k : Nat)))], SD b (p0 + 1) [] [] false⟩ = some (.ex 0, ⟨mkT [(0, .mp 900 0 0 0), (1, .p (.int .i64 N)), (4, .mp 4 0 0 0), (5, .mp 5 0 0 0)], SD b p n [r0] true⟩)) : DrD b p0 N := by
  subst hN
  simp (contextual := true) (implicitDefEqProofs := false) (decide := true) (maxSteps := 1000000) only [SD, hdK, rwK, List.isEmpty, List.length_cons, List.length_nil, Nat.reduceMul, Nat.reduceAdd, Nat.zero_add, Bool.and_true, Bool.and_false, Bool.true_and, Bool.false_and, Bool.not_true, Bool.not_false, cond_true, cond_false, List.append_nil, List.nil_append, List.cons_append, List.map_nil, x46, go_sem] at L0
  have G0 := room_ge (n := r0.length) (by omega)
  refine ⟨⟨n, [r0]⟩, p, ⟨by simp only []; omega, by simp, by simp [or_imp, forall_and]; omega⟩, by omega, by omega, ?_⟩
  rw [q46]; simp (contextual := true) (implicitDefEqProofs := false) (decide := true) (maxSteps := 1000000) only [x46, go_sem, eDN, hb, hp0, hk, L0, room_ge, apK_grow, row, apK_in, G0]
theorem tl1s46 (N : Int) (b : List Int) (p0 p k : Nat) (hb : Rdr b) (hp0 : p0 ≤ 1000000) (hp : p0 ≤ p ∧ p ≤ p0 + 70) (hp1 : p ≤ 900000) (n : List Say) (r0 : List Say) (g : n.length ≤ 5) (g0 : r0.length ≤ 5) (hk : pk b p0 7 = (k : Int)) (hN : N = 12)
    (L0 : CL E [0, 1, 4, 5, 6] [0, 1, 4, 5] (lb x46.1 0) ⟨mkT [(0, .mp 900 0 0 0), (1, .p (.int .i64 N)), (4, .mp 4 0 0 0), (5, .mp 5 0 0 0), (6, .p (.int .i64 (k : Nat)))], SD b (p0 + 1) [] [] false⟩ = some (.ex 0, ⟨mkT [(0, .mp 900 0 0 0), (1, .p (.int .i64 N)), (4, .mp 4 0 0 0), (5, .mp 5 0 0 0)], SD b p n [r0] true⟩)) : DrD b p0 N := by
  subst hN
  simp (contextual := true) (implicitDefEqProofs := false) (decide := true) (maxSteps := 1000000) only [SD, hdK, rwK, List.isEmpty, List.length_cons, List.length_nil, Nat.reduceMul, Nat.reduceAdd, Nat.zero_add, Bool.and_true, Bool.and_false, Bool.true_and, Bool.false_and, Bool.not_true, Bool.not_false, cond_true, cond_false, List.append_nil, List.nil_append, List.cons_append, List.map_nil, x46, go_sem] at L0
  have G0 := room_ge (n := r0.length) (by omega)
  have G := room_ge (n := n.length) (by omega)
  have G' := room_ge (n := n.length + 1) (by omega)
  have h1 : p ≤ 1000000 := by omega
  have h2 : p + 1 ≤ 1000000 := by omega
  cases ho : od b p 12 with
  | false =>
    refine ⟨⟨n, [r0]⟩, p + 1, ⟨by simp only []; omega, by simp, by simp [or_imp, forall_and]; omega⟩, by omega, by omega, ?_⟩
    rw [q46]; simp (contextual := true) (implicitDefEqProofs := false) (decide := true) (maxSteps := 1000000) only [x46, go_sem, eDN, hb, hp0, hk, L0, room_ge, apK_grow, row, apK_in, G0, h1, ho]
  | true =>
    have hv := pk_bd (p := p + 1) (n := 3) hb h2 (by omega)
    by_cases v0 : pk b (p + 1) 3 = 0
    · refine ⟨⟨n ++ [⟨9, 0, 0⟩], [r0]⟩, p + 1 + 1, ⟨by simp; omega, by simp, by simp [or_imp, forall_and]; omega⟩, by omega, by omega, ?_⟩
      rw [q46]; simp (contextual := true) (implicitDefEqProofs := false) (decide := true) (maxSteps := 1000000) only [x46, go_sem, eDN, hb, hp0, hk, L0, room_ge, apK_grow, row, apK_in, G0, h1, h2, ho, v0, G, G', say]
    · by_cases v1 : pk b (p + 1) 3 = 1
      · refine ⟨⟨n, [r0] ++ [[⟨0, 0, 0⟩, ⟨0, 0, 0⟩]]⟩, p + 1 + 1, ⟨by simp only []; omega, by simp, by simp [or_imp, forall_and]; omega⟩, by omega, by omega, ?_⟩
        rw [q46]; simp (contextual := true) (implicitDefEqProofs := false) (decide := true) (maxSteps := 1000000) only [x46, go_sem, eDN, hb, hp0, hk, L0, room_ge, apK_grow, row, apK_in, G0, h1, h2, ho, v0, v1, G, G', say]
      · refine ⟨⟨List.replicate 6 ⟨0, 0, 0⟩, [r0]⟩, p + 1 + 1, ⟨by simp, by simp, by simp [or_imp, forall_and]; omega⟩, by omega, by omega, ?_⟩
        rw [q46]; simp (contextual := true) (implicitDefEqProofs := false) (decide := true) (maxSteps := 1000000) only [x46, go_sem, eDN, hb, hp0, hk, L0, room_ge, apK_grow, row, apK_in, G0, h1, h2, ho, v0, v1, G, G', say]
theorem tz246 (N : Int) (b : List Int) (p0 p k : Nat) (hb : Rdr b) (hp0 : p0 ≤ 1000000) (hp : p0 ≤ p ∧ p ≤ p0 + 70) (hp1 : p ≤ 900000) (n : List Say) (r0 r1 : List Say) (g : n.length ≤ 5) (g0 : r0.length ≤ 5) (g1 : r1.length ≤ 5) (hk : pk b p0 7 = (k : Int)) (hN : N = 0)
    (L0 : CL E [0, 1, 4, 5, 6] [0, 1, 4, 5] (lb x46.1 0) ⟨mkT [(0, .mp 900 0 0 0), (1, .p (.int .i64 N)), (4, .mp 4 0 0 0), (5, .mp 5 0 0 0), (6, .p (.int .i64 (k : Nat)))], SD b (p0 + 1) [] [] false⟩ = some (.ex 0, ⟨mkT [(0, .mp 900 0 0 0), (1, .p (.int .i64 N)), (4, .mp 4 0 0 0), (5, .mp 5 0 0 0)], SD b p n [r0, r1] false⟩)) : DrD b p0 N := by
  subst hN
  simp (contextual := true) (implicitDefEqProofs := false) (decide := true) (maxSteps := 1000000) only [SD, hdK, rwK, List.isEmpty, List.length_cons, List.length_nil, Nat.reduceMul, Nat.reduceAdd, Nat.zero_add, Bool.and_true, Bool.and_false, Bool.true_and, Bool.false_and, Bool.not_true, Bool.not_false, cond_true, cond_false, List.append_nil, List.nil_append, List.cons_append, List.map_nil, x46, go_sem] at L0
  have G0 := room_ge (n := r0.length) (by omega)
  have G1 := room_ge (n := r1.length) (by omega)
  refine ⟨⟨n, [r0, r1]⟩, p, ⟨by simp only []; omega, by simp, by simp [or_imp, forall_and]; omega⟩, by omega, by omega, ?_⟩
  rw [q46]; simp (contextual := true) (implicitDefEqProofs := false) (decide := true) (maxSteps := 1000000) only [x46, go_sem, eDN, hb, hp0, hk, L0, room_ge, apK_grow, row, apK_in, G0, G1]
theorem tl246 (N : Int) (b : List Int) (p0 p k : Nat) (hb : Rdr b) (hp0 : p0 ≤ 1000000) (hp : p0 ≤ p ∧ p ≤ p0 + 70) (hp1 : p ≤ 900000) (n : List Say) (r0 r1 : List Say) (g : n.length ≤ 5) (g0 : r0.length ≤ 5) (g1 : r1.length ≤ 5) (hk : pk b p0 7 = (k : Int)) (hN : N = 12)
    (L0 : CL E [0, 1, 4, 5, 6] [0, 1, 4, 5] (lb x46.1 0) ⟨mkT [(0, .mp 900 0 0 0), (1, .p (.int .i64 N)), (4, .mp 4 0 0 0), (5, .mp 5 0 0 0), (6, .p (.int .i64 (k : Nat)))], SD b (p0 + 1) [] [] false⟩ = some (.ex 0, ⟨mkT [(0, .mp 900 0 0 0), (1, .p (.int .i64 N)), (4, .mp 4 0 0 0), (5, .mp 5 0 0 0)], SD b p n [r0, r1] false⟩)) : DrD b p0 N := by
  subst hN
  simp (contextual := true) (implicitDefEqProofs := false) (decide := true) (maxSteps := 1000000) only [SD, hdK, rwK, List.isEmpty, List.length_cons, List.length_nil, Nat.reduceMul, Nat.reduceAdd, Nat.zero_add, Bool.and_true, Bool.and_false, Bool.true_and, Bool.false_and, Bool.not_true, Bool.not_false, cond_true, cond_false, List.append_nil, List.nil_append, List.cons_append, List.map_nil, x46, go_sem] at L0
  have G0 := room_ge (n := r0.length) (by omega)
  have G1 := room_ge (n := r1.length) (by omega)
  have G := room_ge (n := n.length) (by omega)
  have G' := room_ge (n := n.length + 1) (by omega)
  have h1 : p ≤ 1000000 := by omega
  have h2 : p + 1 ≤ 1000000 := by omega
  cases ho : od b p 12 with
  | false =>
    refine ⟨⟨n, [r0, r1]⟩, p + 1, ⟨by simp only []; omega, by simp, by simp [or_imp, forall_and]; omega⟩, by omega, by omega, ?_⟩
    rw [q46]; simp (contextual := true) (implicitDefEqProofs := false) (decide := true) (maxSteps := 1000000) only [x46, go_sem, eDN, hb, hp0, hk, L0, room_ge, apK_grow, row, apK_in, G0, G1, h1, ho]
  | true =>
    have hv := pk_bd (p := p + 1) (n := 3) hb h2 (by omega)
    by_cases v0 : pk b (p + 1) 3 = 0
    · refine ⟨⟨n ++ [⟨9, 0, 0⟩], [r0, r1]⟩, p + 1 + 1, ⟨by simp; omega, by simp, by simp [or_imp, forall_and]; omega⟩, by omega, by omega, ?_⟩
      rw [q46]; simp (contextual := true) (implicitDefEqProofs := false) (decide := true) (maxSteps := 1000000) only [x46, go_sem, eDN, hb, hp0, hk, L0, room_ge, apK_grow, row, apK_in, G0, G1, h1, h2, ho, v0, G, G', say]
    · by_cases v1 : pk b (p + 1) 3 = 1
      · refine ⟨⟨n, [r0, r1] ++ [[⟨0, 0, 0⟩, ⟨0, 0, 0⟩]]⟩, p + 1 + 1, ⟨by simp only []; omega, by simp, by simp [or_imp, forall_and]; omega⟩, by omega, by omega, ?_⟩
        rw [q46]; simp (contextual := true) (implicitDefEqProofs := false) (decide := true) (maxSteps := 1000000) only [x46, go_sem, eDN, hb, hp0, hk, L0, room_ge, apK_grow, row, apK_in, G0, G1, h1, h2, ho, v0, v1, G, G', say]
      · refine ⟨⟨List.replicate 6 ⟨0, 0, 0⟩, [r0, r1]⟩, p + 1 + 1, ⟨by simp, by simp, by simp [or_imp, forall_and]; omega⟩, by omega, by omega, ?_⟩
        rw [q46]; simp (contextual := true) (implicitDefEqProofs := false) (decide := true) (maxSteps := 1000000) only [x46, go_sem, eDN, hb, hp0, hk, L0, room_ge, apK_grow, row, apK_in, G0, G1, h1, h2, ho, v0, v1, G, G', say]
theorem tz2s46 (N : Int) (b : List Int) (p0 p k : Nat) (hb : Rdr b) (hp0 : p0 ≤ 1000000) (hp : p0 ≤ p ∧ p ≤ p0 + 70) (hp1 : p ≤ 900000) (n : List Say) (r0 r1 : List Say) (g : n.length ≤ 5) (g0 : r0.length ≤ 5) (g1 : r1.length ≤ 5) (hk : pk b p0 7 = (k : Int)) (hN : N = 0)
    (L0 : CL E [0, 1, 4, 5, 6] [0, 1, 4, 5] (lb x46.1 0) ⟨mkT [(0, .mp 900 0 0 0), (1, .p (.int .i64 N)), (4, .mp 4 0 0 0), (5, .mp 5 0 0 0), (6, .p (.int .i64 (k : Nat)))], SD b (p0 + 1) [] [] false⟩ = some (.ex 0, ⟨mkT [(0, .mp 900 0 0 0), (1, .p (.int .i64 N)), (4, .mp 4 0 0 0), (5, .mp 5 0 0 0)], SD b p n [r0, r1] true⟩)) : DrD b p0 N := by
  subst hN
  simp (contextual := true) (implicitDefEqProofs := false) (decide := true) (maxSteps := 1000000) only [SD, hdK, rwK, List.isEmpty, List.length_cons, List.length_nil, Nat.reduceMul, Nat.reduceAdd, Nat.zero_add, Bool.and_true, Bool.and_false, Bool.true_and, Bool.false_and, Bool.not_true, Bool.not_false, cond_true, cond_false, List.append_nil, List.nil_append, List.cons_append, List.map_nil, x46, go_sem] at L0
  have G0 := room_ge (n := r0.length) (by omega)
  have G1 := room_ge (n := r1.length) (by omega)
  refine ⟨⟨n, [r0, r1]⟩, p, ⟨by simp only []; omega, by simp, by simp [or_imp, forall_and]; omega⟩, by omega, by omega, ?_⟩
  rw [q46]; simp (contextual := true) (implicitDefEqProofs := false) (decide := true) (maxSteps := 1000000) only [x46, go_sem, eDN, hb, hp0, hk, L0, room_ge, apK_grow, row, apK_in, G0, G1]
theorem tl2s46 (N : Int) (b : List Int) (p0 p k : Nat) (hb : Rdr b) (hp0 : p0 ≤ 1000000) (hp : p0 ≤ p ∧ p ≤ p0 + 70) (hp1 : p ≤ 900000) (n : List Say) (r0 r1 : List Say) (g : n.length ≤ 5) (g0 : r0.length ≤ 5) (g1 : r1.length ≤ 5) (hk : pk b p0 7 = (k : Int)) (hN : N = 12)
    (L0 : CL E [0, 1, 4, 5, 6] [0, 1, 4, 5] (lb x46.1 0) ⟨mkT [(0, .mp 900 0 0 0), (1, .p (.int .i64 N)), (4, .mp 4 0 0 0), (5, .mp 5 0 0 0), (6, .p (.int .i64 (k : Nat)))], SD b (p0 + 1) [] [] false⟩ = some (.ex 0, ⟨mkT [(0, .mp 900 0 0 0), (1, .p (.int .i64 N)), (4, .mp 4 0 0 0), (5, .mp 5 0 0 0)], SD b p n [r0, r1] true⟩)) : DrD b p0 N := by
  subst hN
  simp (contextual := true) (implicitDefEqProofs := false) (decide := true) (maxSteps := 1000000) only [SD, hdK, rwK, List.isEmpty, List.length_cons, List.length_nil, Nat.reduceMul, Nat.reduceAdd, Nat.zero_add, Bool.and_true, Bool.and_false, Bool.true_and, Bool.false_and, Bool.not_true, Bool.not_false, cond_true, cond_false, List.append_nil, List.nil_append, List.cons_append, List.map_nil, x46, go_sem] at L0
  have G0 := room_ge (n := r0.length) (by omega)
  have G1 := room_ge (n := r1.length) (by omega)
  have G := room_ge (n := n.length) (by omega)
  have G' := room_ge (n := n.length + 1) (by omega)
  have h1 : p ≤ 1000000 := by omega
  have h2 : p + 1 ≤ 1000000 := by omega
  cases ho : od b p 12 with
  | false =>
    refine ⟨⟨n, [r0, r1]⟩, p + 1, ⟨by simp only []; omega, by simp, by simp [or_imp, forall_and]; omega⟩, by omega, by omega, ?_⟩
    rw [q46]; simp (contextual := true) (implicitDefEqProofs := false) (decide := true) (maxSteps := 1000000) only [x46, go_sem, eDN, hb, hp0, hk, L0, room_ge, apK_grow, row, apK_in, G0, G1, h1, ho]
  | true =>
    have hv := pk_bd (p := p + 1) (n := 3) hb h2 (by omega)
    by_cases v0 : pk b (p + 1) 3 = 0
    · refine ⟨⟨n ++ [⟨9, 0, 0⟩], [r0, r1]⟩, p + 1 + 1, ⟨by simp; omega, by simp, by simp [or_imp, forall_and]; omega⟩, by omega, by omega, ?_⟩
      rw [q46]; simp (contextual := true) (implicitDefEqProofs := false) (decide := true) (maxSteps := 1000000) only [x46, go_sem, eDN, hb, hp0, hk, L0, room_ge, apK_grow, row, apK_in, G0, G1, h1, h2, ho, v0, G, G', say]
    · by_cases v1 : pk b (p + 1) 3 = 1
      · refine ⟨⟨n, [r0, r1] ++ [[⟨0, 0, 0⟩, ⟨0, 0, 0⟩]]⟩, p + 1 + 1, ⟨by simp only []; omega, by simp, by simp [or_imp, forall_and]; omega⟩, by omega, by omega, ?_⟩
        rw [q46]; simp (contextual := true) (implicitDefEqProofs := false) (decide := true) (maxSteps := 1000000) only [x46, go_sem, eDN, hb, hp0, hk, L0, room_ge, apK_grow, row, apK_in, G0, G1, h1, h2, ho, v0, v1, G, G', say]
      · refine ⟨⟨List.replicate 6 ⟨0, 0, 0⟩, [r0, r1]⟩, p + 1 + 1, ⟨by simp, by simp, by simp [or_imp, forall_and]; omega⟩, by omega, by omega, ?_⟩
        rw [q46]; simp (contextual := true) (implicitDefEqProofs := false) (decide := true) (maxSteps := 1000000) only [x46, go_sem, eDN, hb, hp0, hk, L0, room_ge, apK_grow, row, apK_in, G0, G1, h1, h2, ho, v0, v1, G, G', say]
theorem tz346 (N : Int) (b : List Int) (p0 p k : Nat) (hb : Rdr b) (hp0 : p0 ≤ 1000000) (hp : p0 ≤ p ∧ p ≤ p0 + 70) (hp1 : p ≤ 900000) (n : List Say) (r0 r1 r2 : List Say) (g : n.length ≤ 5) (g0 : r0.length ≤ 5) (g1 : r1.length ≤ 5) (g2 : r2.length ≤ 5) (hk : pk b p0 7 = (k : Int)) (hN : N = 0)
    (L0 : CL E [0, 1, 4, 5, 6] [0, 1, 4, 5] (lb x46.1 0) ⟨mkT [(0, .mp 900 0 0 0), (1, .p (.int .i64 N)), (4, .mp 4 0 0 0), (5, .mp 5 0 0 0), (6, .p (.int .i64 (k : Nat)))], SD b (p0 + 1) [] [] false⟩ = some (.ex 0, ⟨mkT [(0, .mp 900 0 0 0), (1, .p (.int .i64 N)), (4, .mp 4 0 0 0), (5, .mp 5 0 0 0)], SD b p n [r0, r1, r2] false⟩)) : DrD b p0 N := by
  subst hN
  simp (contextual := true) (implicitDefEqProofs := false) (decide := true) (maxSteps := 1000000) only [SD, hdK, rwK, List.isEmpty, List.length_cons, List.length_nil, Nat.reduceMul, Nat.reduceAdd, Nat.zero_add, Bool.and_true, Bool.and_false, Bool.true_and, Bool.false_and, Bool.not_true, Bool.not_false, cond_true, cond_false, List.append_nil, List.nil_append, List.cons_append, List.map_nil, x46, go_sem] at L0
  have G0 := room_ge (n := r0.length) (by omega)
  have G1 := room_ge (n := r1.length) (by omega)
  have G2 := room_ge (n := r2.length) (by omega)
  refine ⟨⟨n, [r0, r1, r2]⟩, p, ⟨by simp only []; omega, by simp, by simp [or_imp, forall_and]; omega⟩, by omega, by omega, ?_⟩
  rw [q46]; simp (contextual := true) (implicitDefEqProofs := false) (decide := true) (maxSteps := 1000000) only [x46, go_sem, eDN, hb, hp0, hk, L0, room_ge, apK_grow, row, apK_in, G0, G1, G2]
theorem tl346 (N : Int) (b : List Int) (p0 p k : Nat) (hb : Rdr b) (hp0 : p0 ≤ 1000000) (hp : p0 ≤ p ∧ p ≤ p0 + 70) (hp1 : p ≤ 900000) (n : List Say) (r0 r1 r2 : List Say) (g : n.length ≤ 5) (g0 : r0.length ≤ 5) (g1 : r1.length ≤ 5) (g2 : r2.length ≤ 5) (hk : pk b p0 7 = (k : Int)) (hN : N = 12)
    (L0 : CL E [0, 1, 4, 5, 6] [0, 1, 4, 5] (lb x46.1 0) ⟨mkT [(0, .mp 900 0 0 0), (1, .p (.int .i64 N)), (4, .mp 4 0 0 0), (5, .mp 5 0 0 0), (6, .p (.int .i64 (k : Nat)))], SD b (p0 + 1) [] [] false⟩ = some (.ex 0, ⟨mkT [(0, .mp 900 0 0 0), (1, .p (.int .i64 N)), (4, .mp 4 0 0 0), (5, .mp 5 0 0 0)], SD b p n [r0, r1, r2] false⟩)) : DrD b p0 N := by
  subst hN
  simp (contextual := true) (implicitDefEqProofs := false) (decide := true) (maxSteps := 1000000) only [SD, hdK, rwK, List.isEmpty, List.length_cons, List.length_nil, Nat.reduceMul, Nat.reduceAdd, Nat.zero_add, Bool.and_true, Bool.and_false, Bool.true_and, Bool.false_and, Bool.not_true, Bool.not_false, cond_true, cond_false, List.append_nil, List.nil_append, List.cons_append, List.map_nil, x46, go_sem] at L0
  have G0 := room_ge (n := r0.length) (by omega)
  have G1 := room_ge (n := r1.length) (by omega)
  have G2 := room_ge (n := r2.length) (by omega)
  have G := room_ge (n := n.length) (by omega)
  have G' := room_ge (n := n.length + 1) (by omega)
  have h1 : p ≤ 1000000 := by omega
  have h2 : p + 1 ≤ 1000000 := by omega
  cases ho : od b p 12 with
  | false =>
    refine ⟨⟨n, [r0, r1, r2]⟩, p + 1, ⟨by simp only []; omega, by simp, by simp [or_imp, forall_and]; omega⟩, by omega, by omega, ?_⟩
    rw [q46]; simp (contextual := true) (implicitDefEqProofs := false) (decide := true) (maxSteps := 1000000) only [x46, go_sem, eDN, hb, hp0, hk, L0, room_ge, apK_grow, row, apK_in, G0, G1, G2, h1, ho]
  | true =>
    have hv := pk_bd (p := p + 1) (n := 3) hb h2 (by omega)
    by_cases v0 : pk b (p + 1) 3 = 0
    · refine ⟨⟨n ++ [⟨9, 0, 0⟩], [r0, r1, r2]⟩, p + 1 + 1, ⟨by simp; omega, by simp, by simp [or_imp, forall_and]; omega⟩, by omega, by omega, ?_⟩
      rw [q46]; simp (contextual := true) (implicitDefEqProofs := false) (decide := true) (maxSteps := 1000000) only [x46, go_sem, eDN, hb, hp0, hk, L0, room_ge, apK_grow, row, apK_in, G0, G1, G2, h1, h2, ho, v0, G, G', say]
    · by_cases v1 : pk b (p + 1) 3 = 1
      · refine ⟨⟨n, [r0, r1, r2] ++ [[⟨0, 0, 0⟩, ⟨0, 0, 0⟩]]⟩, p + 1 + 1, ⟨by simp only []; omega, by simp, by simp [or_imp, forall_and]; omega⟩, by omega, by omega, ?_⟩
        rw [q46]; simp (contextual := true) (implicitDefEqProofs := false) (decide := true) (maxSteps := 1000000) only [x46, go_sem, eDN, hb, hp0, hk, L0, room_ge, apK_grow, row, apK_in, G0, G1, G2, h1, h2, ho, v0, v1, G, G', say]
      · refine ⟨⟨List.replicate 6 ⟨0, 0, 0⟩, [r0, r1, r2]⟩, p + 1 + 1, ⟨by simp, by simp, by simp [or_imp, forall_and]; omega⟩, by omega, by omega, ?_⟩
        rw [q46]; simp (contextual := true) (implicitDefEqProofs := false) (decide := true) (maxSteps := 1000000) only [x46, go_sem, eDN, hb, hp0, hk, L0, room_ge, apK_grow, row, apK_in, G0, G1, G2, h1, h2, ho, v0, v1, G, G', say]
theorem tz3s46 (N : Int) (b : List Int) (p0 p k : Nat) (hb : Rdr b) (hp0 : p0 ≤ 1000000) (hp : p0 ≤ p ∧ p ≤ p0 + 70) (hp1 : p ≤ 900000) (n : List Say) (r0 r1 r2 : List Say) (g : n.length ≤ 5) (g0 : r0.length ≤ 5) (g1 : r1.length ≤ 5) (g2 : r2.length ≤ 5) (hk : pk b p0 7 = (k : Int)) (hN : N = 0)
    (L0 : CL E [0, 1, 4, 5, 6] [0, 1, 4, 5] (lb x46.1 0) ⟨mkT [(0, .mp 900 0 0 0), (1, .p (.int .i64 N)), (4, .mp 4 0 0 0), (5, .mp 5 0 0 0), (6, .p (.int .i64 (k : Nat)))], SD b (p0 + 1) [] [] false⟩ = some (.ex 0, ⟨mkT [(0, .mp 900 0 0 0), (1, .p (.int .i64 N)), (4, .mp 4 0 0 0), (5, .mp 5 0 0 0)], SD b p n [r0, r1, r2] true⟩)) : DrD b p0 N := by
  subst hN
  simp (contextual := true) (implicitDefEqProofs := false) (decide := true) (maxSteps := 1000000) only [SD, hdK, rwK, List.isEmpty, List.length_cons, List.length_nil, Nat.reduceMul, Nat.reduceAdd, Nat.zero_add, Bool.and_true, Bool.and_false, Bool.true_and, Bool.false_and, Bool.not_true, Bool.not_false, cond_true, cond_false, List.append_nil, List.nil_append, List.cons_append, List.map_nil, x46, go_sem] at L0
  have G0 := room_ge (n := r0.length) (by omega)
  have G1 := room_ge (n := r1.length) (by omega)
  have G2 := room_ge (n := r2.length) (by omega)
  refine ⟨⟨n, [r0, r1, r2]⟩, p, ⟨by simp only []; omega, by simp, by simp [or_imp, forall_and]; omega⟩, by omega, by omega, ?_⟩
  rw [q46]; simp (contextual := true) (implicitDefEqProofs := false) (decide := true) (maxSteps := 1000000) only [x46, go_sem, eDN, hb, hp0, hk, L0, room_ge, apK_grow, row, apK_in, G0, G1, G2]
theorem tl3s46 (N : Int) (b : List Int) (p0 p k : Nat) (hb : Rdr b) (hp0 : p0 ≤ 1000000) (hp : p0 ≤ p ∧ p ≤ p0 + 70) (hp1 : p ≤ 900000) (n : List Say) (r0 r1 r2 : List Say) (g : n.length ≤ 5) (g0 : r0.length ≤ 5) (g1 : r1.length ≤ 5) (g2 : r2.length ≤ 5) (hk : pk b p0 7 = (k : Int)) (hN : N = 12)
    (L0 : CL E [0, 1, 4, 5, 6] [0, 1, 4, 5] (lb x46.1 0) ⟨mkT [(0, .mp 900 0 0 0), (1, .p (.int .i64 N)), (4, .mp 4 0 0 0), (5, .mp 5 0 0 0), (6, .p (.int .i64 (k : Nat)))], SD b (p0 + 1) [] [] false⟩ = some (.ex 0, ⟨mkT [(0, .mp 900 0 0 0), (1, .p (.int .i64 N)), (4, .mp 4 0 0 0), (5, .mp 5 0 0 0)], SD b p n [r0, r1, r2] true⟩)) : DrD b p0 N := by
  subst hN
  simp (contextual := true) (implicitDefEqProofs := false) (decide := true) (maxSteps := 1000000) only [SD, hdK, rwK, List.isEmpty, List.length_cons, List.length_nil, Nat.reduceMul, Nat.reduceAdd, Nat.zero_add, Bool.and_true, Bool.and_false, Bool.true_and, Bool.false_and, Bool.not_true, Bool.not_false, cond_true, cond_false, List.append_nil, List.nil_append, List.cons_append, List.map_nil, x46, go_sem] at L0
  have G0 := room_ge (n := r0.length) (by omega)
  have G1 := room_ge (n := r1.length) (by omega)
  have G2 := room_ge (n := r2.length) (by omega)
  have G := room_ge (n := n.length) (by omega)
  have G' := room_ge (n := n.length + 1) (by omega)
  have h1 : p ≤ 1000000 := by omega
  have h2 : p + 1 ≤ 1000000 := by omega
  cases ho : od b p 12 with
  | false =>
    refine ⟨⟨n, [r0, r1, r2]⟩, p + 1, ⟨by simp only []; omega, by simp, by simp [or_imp, forall_and]; omega⟩, by omega, by omega, ?_⟩
    rw [q46]; simp (contextual := true) (implicitDefEqProofs := false) (decide := true) (maxSteps := 1000000) only [x46, go_sem, eDN, hb, hp0, hk, L0, room_ge, apK_grow, row, apK_in, G0, G1, G2, h1, ho]
  | true =>
    have hv := pk_bd (p := p + 1) (n := 3) hb h2 (by omega)
    by_cases v0 : pk b (p + 1) 3 = 0
    · refine ⟨⟨n ++ [⟨9, 0, 0⟩], [r0, r1, r2]⟩, p + 1 + 1, ⟨by simp; omega, by simp, by simp [or_imp, forall_and]; omega⟩, by omega, by omega, ?_⟩
      rw [q46]; simp (contextual := true) (implicitDefEqProofs := false) (decide := true) (maxSteps := 1000000) only [x46, go_sem, eDN, hb, hp0, hk, L0, room_ge, apK_grow, row, apK_in, G0, G1, G2, h1, h2, ho, v0, G, G', say]
    · by_cases v1 : pk b (p + 1) 3 = 1
      · refine ⟨⟨n, [r0, r1, r2] ++ [[⟨0, 0, 0⟩, ⟨0, 0, 0⟩]]⟩, p + 1 + 1, ⟨by simp only []; omega, by simp, by simp [or_imp, forall_and]; omega⟩, by omega, by omega, ?_⟩
        rw [q46]; simp (contextual := true) (implicitDefEqProofs := false) (decide := true) (maxSteps := 1000000) only [x46, go_sem, eDN, hb, hp0, hk, L0, room_ge, apK_grow, row, apK_in, G0, G1, G2, h1, h2, ho, v0, v1, G, G', say]
      · refine ⟨⟨List.replicate 6 ⟨0, 0, 0⟩, [r0, r1, r2]⟩, p + 1 + 1, ⟨by simp, by simp, by simp [or_imp, forall_and]; omega⟩, by omega, by omega, ?_⟩
        rw [q46]; simp (contextual := true) (implicitDefEqProofs := false) (decide := true) (maxSteps := 1000000) only [x46, go_sem, eDN, hb, hp0, hk, L0, room_ge, apK_grow, row, apK_in, G0, G1, G2, h1, h2, ho, v0, v1, G, G', say]
theorem tz446 (N : Int) (b : List Int) (p0 p k : Nat) (hb : Rdr b) (hp0 : p0 ≤ 1000000) (hp : p0 ≤ p ∧ p ≤ p0 + 70) (hp1 : p ≤ 900000) (n : List Say) (r0 r1 r2 r3 : List Say) (g : n.length ≤ 5) (g0 : r0.length ≤ 5) (g1 : r1.length ≤ 5) (g2 : r2.length ≤ 5) (g3 : r3.length ≤ 5) (hk : pk b p0 7 = (k : Int)) (hN : N = 0)
    (L0 : CL E [0, 1, 4, 5, 6] [0, 1, 4, 5] (lb x46.1 0) ⟨mkT [(0, .mp 900 0 0 0), (1, .p (.int .i64 N)), (4, .mp 4 0 0 0), (5, .mp 5 0 0 0), (6, .p (.int .i64 (k : Nat)))], SD b (p0 + 1) [] [] false⟩ = some (.ex 0, ⟨mkT [(0, .mp 900 0 0 0), (1, .p (.int .i64 N)), (4, .mp 4 0 0 0), (5, .mp 5 0 0 0)], SD b p n [r0, r1, r2, r3] false⟩)) : DrD b p0 N := by
  subst hN
  simp (contextual := true) (implicitDefEqProofs := false) (decide := true) (maxSteps := 1000000) only [SD, hdK, rwK, List.isEmpty, List.length_cons, List.length_nil, Nat.reduceMul, Nat.reduceAdd, Nat.zero_add, Bool.and_true, Bool.and_false, Bool.true_and, Bool.false_and, Bool.not_true, Bool.not_false, cond_true, cond_false, List.append_nil, List.nil_append, List.cons_append, List.map_nil, x46, go_sem] at L0
  have G0 := room_ge (n := r0.length) (by omega)
  have G1 := room_ge (n := r1.length) (by omega)
  have G2 := room_ge (n := r2.length) (by omega)
  have G3 := room_ge (n := r3.length) (by omega)
  refine ⟨⟨n, [r0, r1, r2, r3]⟩, p, ⟨by simp only []; omega, by simp, by simp [or_imp, forall_and]; omega⟩, by omega, by omega, ?_⟩
  rw [q46]; simp (contextual := true) (implicitDefEqProofs := false) (decide := true) (maxSteps := 1000000) only [x46, go_sem, eDN, hb, hp0, hk, L0, room_ge, apK_grow, row, apK_in, G0, G1, G2, G3]
theorem tl446 (N : Int) (b : List Int) (p0 p k : Nat) (hb : Rdr b) (hp0 : p0 ≤ 1000000) (hp : p0 ≤ p ∧ p ≤ p0 + 70) (hp1 : p ≤ 900000) (n : List Say) (r0 r1 r2 r3 : List Say) (g : n.length ≤ 5) (g0 : r0.length ≤ 5) (g1 : r1.length ≤ 5) (g2 : r2.length ≤ 5) (g3 : r3.length ≤ 5) (hk : pk b p0 7 = (k : Int)) (hN : N = 12)
    (L0 : CL E [0, 1, 4, 5, 6] [0, 1, 4, 5] (lb x46.1 0) ⟨mkT [(0, .mp 900 0 0 0), (1, .p (.int .i64 N)), (4, .mp 4 0 0 0), (5, .mp 5 0 0 0), (6, .p (.int .i64 (k : Nat)))], SD b (p0 + 1) [] [] false⟩ = some (.ex 0, ⟨mkT [(0, .mp 900 0 0 0), (1, .p (.int .i64 N)), (4, .mp 4 0 0 0), (5, .mp 5 0 0 0)], SD b p n [r0, r1, r2, r3] false⟩)) : DrD b p0 N := by
  subst hN
  simp (contextual := true) (implicitDefEqProofs := false) (decide := true) (maxSteps := 1000000) only [SD, hdK, rwK, List.isEmpty, List.length_cons, List.length_nil, Nat.reduceMul, Nat.reduceAdd, Nat.zero_add, Bool.and_true, Bool.and_false, Bool.true_and, Bool.false_and, Bool.not_true, Bool.not_false, cond_true, cond_false, List.append_nil, List.nil_append, List.cons_append, List.map_nil, x46, go_sem] at L0
  have G0 := room_ge (n := r0.length) (by omega)
  have G1 := room_ge (n := r1.length) (by omega)
  have G2 := room_ge (n := r2.length) (by omega)
  have G3 := room_ge (n := r3.length) (by omega)
  have G := room_ge (n := n.length) (by omega)
  have G' := room_ge (n := n.length + 1) (by omega)
  have h1 : p ≤ 1000000 := by omega
  have h2 : p + 1 ≤ 1000000 := by omega
  cases ho : od b p 12 with
  | false =>
    refine ⟨⟨n, [r0, r1, r2, r3]⟩, p + 1, ⟨by simp only []; omega, by simp, by simp [or_imp, forall_and]; omega⟩, by omega, by omega, ?_⟩
    rw [q46]; simp (contextual := true) (implicitDefEqProofs := false) (decide := true) (maxSteps := 1000000) only [x46, go_sem, eDN, hb, hp0, hk, L0, room_ge, apK_grow, row, apK_in, G0, G1, G2, G3, h1, ho]
  | true =>
    have hv := pk_bd (p := p + 1) (n := 3) hb h2 (by omega)
    by_cases v0 : pk b (p + 1) 3 = 0
    · refine ⟨⟨n ++ [⟨9, 0, 0⟩], [r0, r1, r2, r3]⟩, p + 1 + 1, ⟨by simp; omega, by simp, by simp [or_imp, forall_and]; omega⟩, by omega, by omega, ?_⟩
      rw [q46]; simp (contextual := true) (implicitDefEqProofs := false) (decide := true) (maxSteps := 1000000) only [x46, go_sem, eDN, hb, hp0, hk, L0, room_ge, apK_grow, row, apK_in, G0, G1, G2, G3, h1, h2, ho, v0, G, G', say]
    · by_cases v1 : pk b (p + 1) 3 = 1
      · refine ⟨⟨n, [r0, r1, r2, r3] ++ [[⟨0, 0, 0⟩, ⟨0, 0, 0⟩]]⟩, p + 1 + 1, ⟨by simp only []; omega, by simp, by simp [or_imp, forall_and]; omega⟩, by omega, by omega, ?_⟩
        rw [q46]; simp (contextual := true) (implicitDefEqProofs := false) (decide := true) (maxSteps := 1000000) only [x46, go_sem, eDN, hb, hp0, hk, L0, room_ge, apK_grow, row, apK_in, G0, G1, G2, G3, h1, h2, ho, v0, v1, G, G', say]
      · refine ⟨⟨List.replicate 6 ⟨0, 0, 0⟩, [r0, r1, r2, r3]⟩, p + 1 + 1, ⟨by simp, by simp, by simp [or_imp, forall_and]; omega⟩, by omega, by omega, ?_⟩
        rw [q46]; simp (contextual := true) (implicitDefEqProofs := false) (decide := true) (maxSteps := 1000000) only [x46, go_sem, eDN, hb, hp0, hk, L0, room_ge, apK_grow, row, apK_in, G0, G1, G2, G3, h1, h2, ho, v0, v1, G, G', say]
theorem tz4s46 (N : Int) (b : List Int) (p0 p k : Nat) (hb : Rdr b) (hp0 : p0 ≤ 1000000) (hp : p0 ≤ p ∧ p ≤ p0 + 70) (hp1 : p ≤ 900000) (n : List Say) (r0 r1 r2 r3 : List Say) (g : n.length ≤ 5) (g0 : r0.length ≤ 5) (g1 : r1.length ≤ 5) (g2 : r2.length ≤ 5) (g3 : r3.length ≤ 5) (hk : pk b p0 7 = (k : Int)) (hN : N = 0)
    (L0 : CL E [0, 1, 4, 5, 6] [0, 1, 4, 5] (lb x46.1 0) ⟨mkT [(0, .mp 900 0 0 0), (1, .p (.int .i64 N)), (4, .mp 4 0 0 0), (5, .mp 5 0 0 0), (6, .p (.int .i64 (k : Nat)))], SD b (p0 + 1) [] [] false⟩ = some (.ex 0, ⟨mkT [(0, .mp 900 0 0 0), (1, .p (.int .i64 N)), (4, .mp 4 0 0 0), (5, .mp 5 0 0 0)], SD b p n [r0, r1, r2, r3] true⟩)) : DrD b p0 N := by
  subst hN
  simp (contextual := true) (implicitDefEqProofs := false) (decide := true) (maxSteps := 1000000) only [SD, hdK, rwK, List.isEmpty, List.length_cons, List.length_nil, Nat.reduceMul, Nat.reduceAdd, Nat.zero_add, Bool.and_true, Bool.and_false, Bool.true_and, Bool.false_and, Bool.not_true, Bool.not_false, cond_true, cond_false, List.append_nil, List.nil_append, List.cons_append, List.map_nil, x46, go_sem] at L0
  have G0 := room_ge (n := r0.length) (by omega)
  have G1 := room_ge (n := r1.length) (by omega)
  have G2 := room_ge (n := r2.length) (by omega)
  have G3 := room_ge (n := r3.length) (by omega)
  refine ⟨⟨n, [r0, r1, r2, r3]⟩, p, ⟨by simp only []; omega, by simp, by simp [or_imp, forall_and]; omega⟩, by omega, by omega, ?_⟩
  rw [q46]; simp (contextual := true) (implicitDefEqProofs := false) (decide := true) (maxSteps := 1000000) only [x46, go_sem, eDN, hb, hp0, hk, L0, room_ge, apK_grow, row, apK_in, G0, G1, G2, G3]
theorem tl4s46 (N : Int) (b : List Int) (p0 p k : Nat) (hb : Rdr b) (hp0 : p0 ≤ 1000000) (hp : p0 ≤ p ∧ p ≤ p0 + 70) (hp1 : p ≤ 900000) (n : List Say) (r0 r1 r2 r3 : List Say) (g : n.length ≤ 5) (g0 : r0.length ≤ 5) (g1 : r1.length ≤ 5) (g2 : r2.length ≤ 5) (g3 : r3.length ≤ 5) (hk : pk b p0 7 = (k : Int)) (hN : N = 12)
    (L0 : CL E [0, 1, 4, 5, 6] [0, 1, 4, 5] (lb x46.1 0) ⟨mkT [(0, .mp 900 0 0 0), (1, .p (.int .i64 N)), (4, .mp 4 0 0 0), (5, .mp 5 0 0 0), (6, .p (.int .i64 (k : Nat)))], SD b (p0 + 1) [] [] false⟩ = some (.ex 0, ⟨mkT [(0, .mp 900 0 0 0), (1, .p (.int .i64 N)), (4, .mp 4 0 0 0), (5, .mp 5 0 0 0)], SD b p n [r0, r1, r2, r3] true⟩)) : DrD b p0 N := by
  subst hN
  simp (contextual := true) (implicitDefEqProofs := false) (decide := true) (maxSteps := 1000000) only [SD, hdK, rwK, List.isEmpty, List.length_cons, List.length_nil, Nat.reduceMul, Nat.reduceAdd, Nat.zero_add, Bool.and_true, Bool.and_false, Bool.true_and, Bool.false_and, Bool.not_true, Bool.not_false, cond_true, cond_false, List.append_nil, List.nil_append, List.cons_append, List.map_nil, x46, go_sem] at L0
  have G0 := room_ge (n := r0.length) (by omega)
  have G1 := room_ge (n := r1.length) (by omega)
  have G2 := room_ge (n := r2.length) (by omega)
  have G3 := room_ge (n := r3.length) (by omega)
  have G := room_ge (n := n.length) (by omega)
  have G' := room_ge (n := n.length + 1) (by omega)
  have h1 : p ≤ 1000000 := by omega
  have h2 : p + 1 ≤ 1000000 := by omega
  cases ho : od b p 12 with
  | false =>
    refine ⟨⟨n, [r0, r1, r2, r3]⟩, p + 1, ⟨by simp only []; omega, by simp, by simp [or_imp, forall_and]; omega⟩, by omega, by omega, ?_⟩
    rw [q46]; simp (contextual := true) (implicitDefEqProofs := false) (decide := true) (maxSteps := 1000000) only [x46, go_sem, eDN, hb, hp0, hk, L0, room_ge, apK_grow, row, apK_in, G0, G1, G2, G3, h1, ho]
  | true =>
    have hv := pk_bd (p := p + 1) (n := 3) hb h2 (by omega)
    by_cases v0 : pk b (p + 1) 3 = 0
    · refine ⟨⟨n ++ [⟨9, 0, 0⟩], [r0, r1, r2, r3]⟩, p + 1 + 1, ⟨by simp; omega, by simp, by simp [or_imp, forall_and]; omega⟩, by omega, by omega, ?_⟩
      rw [q46]; simp (contextual := true) (implicitDefEqProofs := false) (decide := true) (maxSteps := 1000000) only [x46, go_sem, eDN, hb, hp0, hk, L0, room_ge, apK_grow, row, apK_in, G0, G1, G2, G3, h1, h2, ho, v0, G, G', say]
    · by_cases v1 : pk b (p + 1) 3 = 1
      · refine ⟨⟨n, [r0, r1, r2, r3] ++ [[⟨0, 0, 0⟩, ⟨0, 0, 0⟩]]⟩, p + 1 + 1, ⟨by simp only []; omega, by simp, by simp [or_imp, forall_and]; omega⟩, by omega, by omega, ?_⟩
        rw [q46]; simp (contextual := true) (implicitDefEqProofs := false) (decide := true) (maxSteps := 1000000) only [x46, go_sem, eDN, hb, hp0, hk, L0, room_ge, apK_grow, row, apK_in, G0, G1, G2, G3, h1, h2, ho, v0, v1, G, G', say]
      · refine ⟨⟨List.replicate 6 ⟨0, 0, 0⟩, [r0, r1, r2, r3]⟩, p + 1 + 1, ⟨by simp, by simp, by simp [or_imp, forall_and]; omega⟩, by omega, by omega, ?_⟩
        rw [q46]; simp (contextual := true) (implicitDefEqProofs := false) (decide := true) (maxSteps := 1000000) only [x46, go_sem, eDN, hb, hp0, hk, L0, room_ge, apK_grow, row, apK_in, G0, G1, G2, G3, h1, h2, ho, v0, v1, G, G', say]
theorem tz546 (N : Int) (b : List Int) (p0 p k : Nat) (hb : Rdr b) (hp0 : p0 ≤ 1000000) (hp : p0 ≤ p ∧ p ≤ p0 + 70) (hp1 : p ≤ 900000) (n : List Say) (r0 r1 r2 r3 r4 : List Say) (g : n.length ≤ 5) (g0 : r0.length ≤ 5) (g1 : r1.length ≤ 5) (g2 : r2.length ≤ 5) (g3 : r3.length ≤ 5) (g4 : r4.length ≤ 5) (hk : pk b p0 7 = (k : Int)) (hN : N = 0)
    (L0 : CL E [0, 1, 4, 5, 6] [0, 1, 4, 5] (lb x46.1 0) ⟨mkT [(0, .mp 900 0 0 0), (1, .p (.int .i64 N)), (4, .mp 4 0 0 0), (5, .mp 5 0 0 0), (6, .p (.int .i64 (k : Nat)))], SD b (p0 + 1) [] [] false⟩ = some (.ex 0, ⟨mkT [(0, .mp 900 0 0 0), (1, .p (.int .i64 N)), (4, .mp 4 0 0 0), (5, .mp 5 0 0 0)], SD b p n [r0, r1, r2, r3, r4] false⟩)) : DrD b p0 N := by
  subst hN
  simp (contextual := true) (implicitDefEqProofs := false) (decide := true) (maxSteps := 1000000) only [SD, hdK, rwK, List.isEmpty, List.length_cons, List.length_nil, Nat.reduceMul, Nat.reduceAdd, Nat.zero_add, Bool.and_true, Bool.and_false, Bool.true_and, Bool.false_and, Bool.not_true, Bool.not_false, cond_true, cond_false, List.append_nil, List.nil_append, List.cons_append, List.map_nil, x46, go_sem] at L0
  have G0 := room_ge (n := r0.length) (by omega)
  have G1 := room_ge (n := r1.length) (by omega)
  have G2 := room_ge (n := r2.length) (by omega)
  have G3 := room_ge (n := r3.length) (by omega)
  have G4 := room_ge (n := r4.length) (by omega)
  refine ⟨⟨n, [r0, r1, r2, r3, r4]⟩, p, ⟨by simp only []; omega, by simp, by simp [or_imp, forall_and]; omega⟩, by omega, by omega, ?_⟩
  rw [q46]; simp (contextual := true) (implicitDefEqProofs := false) (decide := true) (maxSteps := 1000000) only [x46, go_sem, eDN, hb, hp0, hk, L0, room_ge, apK_grow, row, apK_in, G0, G1, G2, G3, G4]
theorem tl546 (N : Int) (b : List Int) (p0 p k : Nat) (hb : Rdr b) (hp0 : p0 ≤ 1000000) (hp : p0 ≤ p ∧ p ≤ p0 + 70) (hp1 : p ≤ 900000) (n : List Say) (r0 r1 r2 r3 r4 : List Say) (g : n.length ≤ 5) (g0 : r0.length ≤ 5) (g1 : r1.length ≤ 5) (g2 : r2.length ≤ 5) (g3 : r3.length ≤ 5) (g4 : r4.length ≤ 5) (hk : pk b p0 7 = (k : Int)) (hN : N = 12)
    (L0 : CL E [0, 1, 4, 5, 6] [0, 1, 4, 5] (lb x46.1 0) ⟨mkT [(0, .mp 900 0 0 0), (1, .p (.int .i64 N)), (4, .mp 4 0 0 0), (5, .mp 5 0 0 0), (6, .p (.int .i64 (k : Nat)))], SD b (p0 + 1) [] [] false⟩ = some (.ex 0, ⟨mkT [(0, .mp 900 0 0 0), (1, .p (.int .i64 N)), (4, .mp 4 0 0 0), (5, .mp 5 0 0 0)], SD b p n [r0, r1, r2, r3, r4] false⟩)) : DrD b p0 N := by
  subst hN
  simp (contextual := true) (implicitDefEqProofs := false) (decide := true) (maxSteps := 1000000) only [SD, hdK, rwK, List.isEmpty, List.length_cons, List.length_nil, Nat.reduceMul, Nat.reduceAdd, Nat.zero_add, Bool.and_true, Bool.and_false, Bool.true_and, Bool.false_and, Bool.not_true, Bool.not_false, cond_true, cond_false, List.append_nil, List.nil_append, List.cons_append, List.map_nil, x46, go_sem] at L0
  have G0 := room_ge (n := r0.length) (by omega)
  have G1 := room_ge (n := r1.length) (by omega)
  have G2 := room_ge (n := r2.length) (by omega)
  have G3 := room_ge (n := r3.length) (by omega)
  have G4 := room_ge (n := r4.length) (by omega)
  have G := room_ge (n := n.length) (by omega)
  have G' := room_ge (n := n.length + 1) (by omega)
  have h1 : p ≤ 1000000 := by omega
  have h2 : p + 1 ≤ 1000000 := by omega
  cases ho : od b p 12 with
  | false =>
    refine ⟨⟨n, [r0, r1, r2, r3, r4]⟩, p + 1, ⟨by simp only []; omega, by simp, by simp [or_imp, forall_and]; omega⟩, by omega, by omega, ?_⟩
    rw [q46]; simp (contextual := true) (implicitDefEqProofs := false) (decide := true) (maxSteps := 1000000) only [x46, go_sem, eDN, hb, hp0, hk, L0, room_ge, apK_grow, row, apK_in, G0, G1, G2, G3, G4, h1, ho]
  | true =>
    have hv := pk_bd (p := p + 1) (n := 3) hb h2 (by omega)
    by_cases v0 : pk b (p + 1) 3 = 0
    · refine ⟨⟨n ++ [⟨9, 0, 0⟩], [r0, r1, r2, r3, r4]⟩, p + 1 + 1, ⟨by simp; omega, by simp, by simp [or_imp, forall_and]; omega⟩, by omega, by omega, ?_⟩
      rw [q46]; simp (contextual := true) (implicitDefEqProofs := false) (decide := true) (maxSteps := 1000000) only [x46, go_sem, eDN, hb, hp0, hk, L0, room_ge, apK_grow, row, apK_in, G0, G1, G2, G3, G4, h1, h2, ho, v0, G, G', say]
    · by_cases v1 : pk b (p + 1) 3 = 1
      · refine ⟨⟨n, [r0, r1, r2, r3, r4] ++ [[⟨0, 0, 0⟩, ⟨0, 0, 0⟩]]⟩, p + 1 + 1, ⟨by simp only []; omega, by simp, by simp [or_imp, forall_and]; omega⟩, by omega, by omega, ?_⟩
        rw [q46]; simp (contextual := true) (implicitDefEqProofs := false) (decide := true) (maxSteps := 1000000) only [x46, go_sem, eDN, hb, hp0, hk, L0, room_ge, apK_grow, row, apK_in, G0, G1, G2, G3, G4, h1, h2, ho, v0, v1, G, G', say]
      · refine ⟨⟨List.replicate 6 ⟨0, 0, 0⟩, [r0, r1, r2, r3, r4]⟩, p + 1 + 1, ⟨by simp, by simp, by simp [or_imp, forall_and]; omega⟩, by omega, by omega, ?_⟩
        rw [q46]; simp (contextual := true) (implicitDefEqProofs := false) (decide := true) (maxSteps := 1000000) only [x46, go_sem, eDN, hb, hp0, hk, L0, room_ge, apK_grow, row, apK_in, G0, G1, G2, G3, G4, h1, h2, ho, v0, v1, G, G', say]
theorem tz5s46 (N : Int) (b : List Int) (p0 p k : Nat) (hb : Rdr b) (hp0 : p0 ≤ 1000000) (hp : p0 ≤ p ∧ p ≤ p0 + 70) (hp1 : p ≤ 900000) (n : List Say) (r0 r1 r2 r3 r4 : List Say) (g : n.length ≤ 5) (g0 : r0.length ≤ 5) (g1 : r1.length ≤ 5) (g2 : r2.length ≤ 5) (g3 : r3.length ≤ 5) (g4 : r4.length ≤ 5) (hk : pk b p0 7 = (k : Int)) (hN : N = 0)
    (L0 : CL E [0, 1, 4, 5, 6] [0, 1, 4, 5] (lb x46.1 0) ⟨mkT [(0, .mp 900 0 0 0), (1, .p (.int .i64 N)), (4, .mp 4 0 0 0), (5, .mp 5 0 0 0), (6, .p (.int .i64 (k : Nat)))], SD b (p0 + 1) [] [] false⟩ = some (.ex 0, ⟨mkT [(0, .mp 900 0 0 0), (1, .p (.int .i64 N)), (4, .mp 4 0 0 0), (5, .mp 5 0 0 0)], SD b p n [r0, r1, r2, r3, r4] true⟩)) : DrD b p0 N := by
  subst hN
  simp (contextual := true) (implicitDefEqProofs := false) (decide := true) (maxSteps := 1000000) only [SD, hdK, rwK, List.isEmpty, List.length_cons, List.length_nil, Nat.reduceMul, Nat.reduceAdd, Nat.zero_add, Bool.and_true, Bool.and_false, Bool.true_and, Bool.false_and, Bool.not_true, Bool.not_false, cond_true, cond_false, List.append_nil, List.nil_append, List.cons_append, List.map_nil, x46, go_sem] at L0
  have G0 := room_ge (n := r0.length) (by omega)
  have G1 := room_ge (n := r1.length) (by omega)
  have G2 := room_ge (n := r2.length) (by omega)
  have G3 := room_ge (n := r3.length) (by omega)
  have G4 := room_ge (n := r4.length) (by omega)
  refine ⟨⟨n, [r0, r1, r2, r3, r4]⟩, p, ⟨by simp only []; omega, by simp, by simp [or_imp, forall_and]; omega⟩, by omega, by omega, ?_⟩
  rw [q46]; simp (contextual := true) (implicitDefEqProofs := false) (decide := true) (maxSteps := 1000000) only [x46, go_sem, eDN, hb, hp0, hk, L0, room_ge, apK_grow, row, apK_in, G0, G1, G2, G3, G4]
theorem tl5s46 (N : Int) (b : List Int) (p0 p k : Nat) (hb : Rdr b) (hp0 : p0 ≤ 1000000) (hp : p0 ≤ p ∧ p ≤ p0 + 70) (hp1 : p ≤ 900000) (n : List Say) (r0 r1 r2 r3 r4 : List Say) (g : n.length ≤ 5) (g0 : r0.length ≤ 5) (g1 : r1.length ≤ 5) (g2 : r2.length ≤ 5) (g3 : r3.length ≤ 5) (g4 : r4.length ≤ 5) (hk : pk b p0 7 = (k : Int)) (hN : N = 12)
    (L0 : CL E [0, 1, 4, 5, 6] [0, 1, 4, 5] (lb x46.1 0) ⟨mkT [(0, .mp 900 0 0 0), (1, .p (.int .i64 N)), (4, .mp 4 0 0 0), (5, .mp 5 0 0 0), (6, .p (.int .i64 (k : Nat)))], SD b (p0 + 1) [] [] false⟩ = some (.ex 0, ⟨mkT [(0, .mp 900 0 0 0), (1, .p (.int .i64 N)), (4, .mp 4 0 0 0), (5, .mp 5 0 0 0)], SD b p n [r0, r1, r2, r3, r4] true⟩)) : DrD b p0 N := by
  subst hN
  simp (contextual := true) (implicitDefEqProofs := false) (decide := true) (maxSteps := 1000000) only [SD, hdK, rwK, List.isEmpty, List.length_cons, List.length_nil, Nat.reduceMul, Nat.reduceAdd, Nat.zero_add, Bool.and_true, Bool.and_false, Bool.true_and, Bool.false_and, Bool.not_true, Bool.not_false, cond_true, cond_false, List.append_nil, List.nil_append, List.cons_append, List.map_nil, x46, go_sem] at L0
  have G0 := room_ge (n := r0.length) (by omega)
  have G1 := room_ge (n := r1.length) (by omega)
  have G2 := room_ge (n := r2.length) (by omega)
  have G3 := room_ge (n := r3.length) (by omega)
  have G4 := room_ge (n := r4.length) (by omega)
  have G := room_ge (n := n.length) (by omega)
  have G' := room_ge (n := n.length + 1) (by omega)
  have h1 : p ≤ 1000000 := by omega
  have h2 : p + 1 ≤ 1000000 := by omega
  cases ho : od b p 12 with
  | false =>
    refine ⟨⟨n, [r0, r1, r2, r3, r4]⟩, p + 1, ⟨by simp only []; omega, by simp, by simp [or_imp, forall_and]; omega⟩, by omega, by omega, ?_⟩
    rw [q46]; simp (contextual := true) (implicitDefEqProofs := false) (decide := true) (maxSteps := 1000000) only [x46, go_sem, eDN, hb, hp0, hk, L0, room_ge, apK_grow, row, apK_in, G0, G1, G2, G3, G4, h1, ho]
  | true =>
    have hv := pk_bd (p := p + 1) (n := 3) hb h2 (by omega)
    by_cases v0 : pk b (p + 1) 3 = 0
    · refine ⟨⟨n ++ [⟨9, 0, 0⟩], [r0, r1, r2, r3, r4]⟩, p + 1 + 1, ⟨by simp; omega, by simp, by simp [or_imp, forall_and]; omega⟩, by omega, by omega, ?_⟩
      rw [q46]; simp (contextual := true) (implicitDefEqProofs := false) (decide := true) (maxSteps := 1000000) only [x46, go_sem, eDN, hb, hp0, hk, L0, room_ge, apK_grow, row, apK_in, G0, G1, G2, G3, G4, h1, h2, ho, v0, G, G', say]
    · by_cases v1 : pk b (p + 1) 3 = 1
      · refine ⟨⟨n, [r0, r1, r2, r3, r4] ++ [[⟨0, 0, 0⟩, ⟨0, 0, 0⟩]]⟩, p + 1 + 1, ⟨by simp only []; omega, by simp, by simp [or_imp, forall_and]; omega⟩, by omega, by omega, ?_⟩
        rw [q46]; simp (contextual := true) (implicitDefEqProofs := false) (decide := true) (maxSteps := 1000000) only [x46, go_sem, eDN, hb, hp0, hk, L0, room_ge, apK_grow, row, apK_in, G0, G1, G2, G3, G4, h1, h2, ho, v0, v1, G, G', say]
      · refine ⟨⟨List.replicate 6 ⟨0, 0, 0⟩, [r0, r1, r2, r3, r4]⟩, p + 1 + 1, ⟨by simp, by simp, by simp [or_imp, forall_and]; omega⟩, by omega, by omega, ?_⟩
        rw [q46]; simp (contextual := true) (implicitDefEqProofs := false) (decide := true) (maxSteps := 1000000) only [x46, go_sem, eDN, hb, hp0, hk, L0, room_ge, apK_grow, row, apK_in, G0, G1, G2, G3, G4, h1, h2, ho, v0, v1, G, G', say]
theorem tz646 (N : Int) (b : List Int) (p0 p k : Nat) (hb : Rdr b) (hp0 : p0 ≤ 1000000) (hp : p0 ≤ p ∧ p ≤ p0 + 70) (hp1 : p ≤ 900000) (n : List Say) (r0 r1 r2 r3 r4 r5 : List Say) (g : n.length ≤ 5) (g0 : r0.length ≤ 5) (g1 : r1.length ≤ 5) (g2 : r2.length ≤ 5) (g3 : r3.length ≤ 5) (g4 : r4.length ≤ 5) (g5 : r5.length ≤ 5) (hk : pk b p0 7 = (k : Int)) (hN : N = 0)
    (L0 : CL E [0, 1, 4, 5, 6] [0, 1, 4, 5] (lb x46.1 0) ⟨mkT [(0, .mp 900 0 0 0), (1, .p (.int .i64 N)), (4, .mp 4 0 0 0), (5, .mp 5 0 0 0), (6, .p (.int .i64 (k : Nat)))], SD b (p0 + 1) [] [] false⟩ = some (.ex 0, ⟨mkT [(0, .mp 900 0 0 0), (1, .p (.int .i64 N)), (4, .mp 4 0 0 0), (5, .mp 5 0 0 0)], SD b p n [r0, r1, r2, r3, r4, r5] false⟩)) : DrD b p0 N := by
  subst hN
  simp (contextual := true) (implicitDefEqProofs := false) (decide := true) (maxSteps := 1000000) only [SD, hdK, rwK, List.isEmpty, List.length_cons, List.length_nil, Nat.reduceMul, Nat.reduceAdd, Nat.zero_add, Bool.and_true, Bool.and_false, Bool.true_and, Bool.false_and, Bool.not_true, Bool.not_false, cond_true, cond_false, List.append_nil, List.nil_append, List.cons_append, List.map_nil, x46, go_sem] at L0
  have G0 := room_ge (n := r0.length) (by omega)
  have G1 := room_ge (n := r1.length) (by omega)
  have G2 := room_ge (n := r2.length) (by omega)
  have G3 := room_ge (n := r3.length) (by omega)
  have G4 := room_ge (n := r4.length) (by omega)
  have G5 := room_ge (n := r5.length) (by omega)
  refine ⟨⟨n, [r0, r1, r2, r3, r4, r5]⟩, p, ⟨by simp only []; omega, by simp, by simp [or_imp, forall_and]; omega⟩, by omega, by omega, ?_⟩
  rw [q46]; simp (contextual := true) (implicitDefEqProofs := false) (decide := true) (maxSteps := 1000000) only [x46, go_sem, eDN, hb, hp0, hk, L0, room_ge, apK_grow, row, apK_in, G0, G1, G2, G3, G4, G5]
theorem tl646 (N : Int) (b : List Int) (p0 p k : Nat) (hb : Rdr b) (hp0 : p0 ≤ 1000000) (hp : p0 ≤ p ∧ p ≤ p0 + 70) (hp1 : p ≤ 900000) (n : List Say) (r0 r1 r2 r3 r4 r5 : List Say) (g : n.length ≤ 5) (g0 : r0.length ≤ 5) (g1 : r1.length ≤ 5) (g2 : r2.length ≤ 5) (g3 : r3.length ≤ 5) (g4 : r4.length ≤ 5) (g5 : r5.length ≤ 5) (hk : pk b p0 7 = (k : Int)) (hN : N = 12)
    (L0 : CL E [0, 1, 4, 5, 6] [0, 1, 4, 5] (lb x46.1 0) ⟨mkT [(0, .mp 900 0 0 0), (1, .p (.int .i64 N)), (4, .mp 4 0 0 0), (5, .mp 5 0 0 0), (6, .p (.int .i64 (k : Nat)))], SD b (p0 + 1) [] [] false⟩ = some (.ex 0, ⟨mkT [(0, .mp 900 0 0 0), (1, .p (.int .i64 N)), (4, .mp 4 0 0 0), (5, .mp 5 0 0 0)], SD b p n [r0, r1, r2, r3, r4, r5] false⟩)) : DrD b p0 N := by
  subst hN
  simp (contextual := true) (implicitDefEqProofs := false) (decide := true) (maxSteps := 1000000) only [SD, hdK, rwK, List.isEmpty, List.length_cons, List.length_nil, Nat.reduceMul, Nat.reduceAdd, Nat.zero_add, Bool.and_true, Bool.and_false, Bool.true_and, Bool.false_and, Bool.not_true, Bool.not_false, cond_true, cond_false, List.append_nil, List.nil_append, List.cons_append, List.map_nil, x46, go_sem] at L0
  have G0 := room_ge (n := r0.length) (by omega)
  have G1 := room_ge (n := r1.length) (by omega)
  have G2 := room_ge (n := r2.length) (by omega)
  have G3 := room_ge (n := r3.length) (by omega)
  have G4 := room_ge (n := r4.length) (by omega)
  have G5 := room_ge (n := r5.length) (by omega)
  have G := room_ge (n := n.length) (by omega)
  have G' := room_ge (n := n.length + 1) (by omega)
  have h1 : p ≤ 1000000 := by omega
  have h2 : p + 1 ≤ 1000000 := by omega
  cases ho : od b p 12 with
  | false =>
    refine ⟨⟨n, [r0, r1, r2, r3, r4, r5]⟩, p + 1, ⟨by simp only []; omega, by simp, by simp [or_imp, forall_and]; omega⟩, by omega, by omega, ?_⟩
    rw [q46]; simp (contextual := true) (implicitDefEqProofs := false) (decide := true) (maxSteps := 1000000) only [x46, go_sem, eDN, hb, hp0, hk, L0, room_ge, apK_grow, row, apK_in, G0, G1, G2, G3, G4, G5, h1, ho]
  | true =>
    have hv := pk_bd (p := p + 1) (n := 3) hb h2 (by omega)
    by_cases v0 : pk b (p + 1) 3 = 0
    · refine ⟨⟨n ++ [⟨9, 0, 0⟩], [r0, r1, r2, r3, r4, r5]⟩, p + 1 + 1, ⟨by simp; omega, by simp, by simp [or_imp, forall_and]; omega⟩, by omega, by omega, ?_⟩
      rw [q46]; simp (contextual := true) (implicitDefEqProofs := false) (decide := true) (maxSteps := 1000000) only [x46, go_sem, eDN, hb, hp0, hk, L0, room_ge, apK_grow, row, apK_in, G0, G1, G2, G3, G4, G5, h1, h2, ho, v0, G, G', say]
    · by_cases v1 : pk b (p + 1) 3 = 1
      · refine ⟨⟨n, [r0, r1, r2, r3, r4, r5] ++ [[⟨0, 0, 0⟩, ⟨0, 0, 0⟩]]⟩, p + 1 + 1, ⟨by simp only []; omega, by simp, by simp [or_imp, forall_and]; omega⟩, by omega, by omega, ?_⟩
        rw [q46]; simp (contextual := true) (implicitDefEqProofs := false) (decide := true) (maxSteps := 1000000) only [x46, go_sem, eDN, hb, hp0, hk, L0, room_ge, apK_grow, row, apK_in, G0, G1, G2, G3, G4, G5, h1, h2, ho, v0, v1, G, G', say]
      · refine ⟨⟨List.replicate 6 ⟨0, 0, 0⟩, [r0, r1, r2, r3, r4, r5]⟩, p + 1 + 1, ⟨by simp, by simp, by simp [or_imp, forall_and]; omega⟩, by omega, by omega, ?_⟩
        rw [q46]; simp (contextual := true) (implicitDefEqProofs := false) (decide := true) (maxSteps := 1000000) only [x46, go_sem, eDN, hb, hp0, hk, L0, room_ge, apK_grow, row, apK_in, G0, G1, G2, G3, G4, G5, h1, h2, ho, v0, v1, G, G', say]
theorem tz6s46 (N : Int) (b : List Int) (p0 p k : Nat) (hb : Rdr b) (hp0 : p0 ≤ 1000000) (hp : p0 ≤ p ∧ p ≤ p0 + 70) (hp1 : p ≤ 900000) (n : List Say) (r0 r1 r2 r3 r4 r5 : List Say) (g : n.length ≤ 5) (g0 : r0.length ≤ 5) (g1 : r1.length ≤ 5) (g2 : r2.length ≤ 5) (g3 : r3.length ≤ 5) (g4 : r4.length ≤ 5) (g5 : r5.length ≤ 5) (hk : pk b p0 7 = (k : Int)) (hN : N = 0)
    (L0 : CL E [0, 1, 4, 5, 6] [0, 1, 4, 5] (lb x46.1 0) ⟨mkT [(0, .mp 900 0 0 0), (1, .p (.int .i64 N)), (4, .mp 4 0 0 0), (5, .mp 5 0 0 0), (6, .p (.int .i64 (k : Nat)))], SD b (p0 + 1) [] [] false⟩ = some (.ex 0, ⟨mkT [(0, .mp 900 0 0 0), (1, .p (.int .i64 N)), (4, .mp 4 0 0 0), (5, .mp 5 0 0 0)], SD b p n [r0, r1, r2, r3, r4, r5] true⟩)) : DrD b p0 N := by
  subst hN
  simp (contextual := true) (implicitDefEqProofs := false) (decide := true) (maxSteps := 1000000) only [SD, hdK, rwK, List.isEmpty, List.length_cons, List.length_nil, Nat.reduceMul, Nat.reduceAdd, Nat.zero_add, Bool.and_true, Bool.and_false, Bool.true_and, Bool.false_and, Bool.not_true, Bool.not_false, cond_true, cond_false, List.append_nil, List.nil_append, List.cons_append, List.map_nil, x46, go_sem] at L0
  have G0 := room_ge (n := r0.length) (by omega)
  have G1 := room_ge (n := r1.length) (by omega)
  have G2 := room_ge (n := r2.length) (by omega)
  have G3 := room_ge (n := r3.length) (by omega)
  have G4 := room_ge (n := r4.length) (by omega)
  have G5 := room_ge (n := r5.length) (by omega)
  refine ⟨⟨n, [r0, r1, r2, r3, r4, r5]⟩, p, ⟨by simp only []; omega, by simp, by simp [or_imp, forall_and]; omega⟩, by omega, by omega, ?_⟩
  rw [q46]; simp (contextual := true) (implicitDefEqProofs := false) (decide := true) (maxSteps := 1000000) only [x46, go_sem, eDN, hb, hp0, hk, L0, room_ge, apK_grow, row, apK_in, G0, G1, G2, G3, G4, G5]
theorem tl6s46 (N : Int) (b : List Int) (p0 p k : Nat) (hb : Rdr b) (hp0 : p0 ≤ 1000000) (hp : p0 ≤ p ∧ p ≤ p0 + 70) (hp1 : p ≤ 900000) (n : List Say) (r0 r1 r2 r3 r4 r5 : List Say) (g : n.length ≤ 5) (g0 : r0.length ≤ 5) (g1 : r1.length ≤ 5) (g2 : r2.length ≤ 5) (g3 : r3.length ≤ 5) (g4 : r4.length ≤ 5) (g5 : r5.length ≤ 5) (hk : pk b p0 7 = (k : Int)) (hN : N = 12)
    (L0 : CL E [0, 1, 4, 5, 6] [0, 1, 4, 5] (lb x46.1 0) ⟨mkT [(0, .mp 900 0 0 0), (1, .p (.int .i64 N)), (4, .mp 4 0 0 0), (5, .mp 5 0 0 0), (6, .p (.int .i64 (k : Nat)))], SD b (p0 + 1) [] [] false⟩ = some (.ex 0, ⟨mkT [(0, .mp 900 0 0 0), (1, .p (.int .i64 N)), (4, .mp 4 0 0 0), (5, .mp 5 0 0 0)], SD b p n [r0, r1, r2, r3, r4, r5] true⟩)) : DrD b p0 N := by
  subst hN
  simp (contextual := true) (implicitDefEqProofs := false) (decide := true) (maxSteps := 1000000) only [SD, hdK, rwK, List.isEmpty, List.length_cons, List.length_nil, Nat.reduceMul, Nat.reduceAdd, Nat.zero_add, Bool.and_true, Bool.and_false, Bool.true_and, Bool.false_and, Bool.not_true, Bool.not_false, cond_true, cond_false, List.append_nil, List.nil_append, List.cons_append, List.map_nil, x46, go_sem] at L0
  have G0 := room_ge (n := r0.length) (by omega)
  have G1 := room_ge (n := r1.length) (by omega)
  have G2 := room_ge (n := r2.length) (by omega)
  have G3 := room_ge (n := r3.length) (by omega)
  have G4 := room_ge (n := r4.length) (by omega)
  have G5 := room_ge (n := r5.length) (by omega)
  have G := room_ge (n := n.length) (by omega)
  have G' := room_ge (n := n.length + 1) (by omega)
  have h1 : p ≤ 1000000 := by omega
  have h2 : p + 1 ≤ 1000000 := by omega
  cases ho : od b p 12 with
  | false =>
    refine ⟨⟨n, [r0, r1, r2, r3, r4, r5]⟩, p + 1, ⟨by simp only []; omega, by simp, by simp [or_imp, forall_and]; omega⟩, by omega, by omega, ?_⟩
    rw [q46]; simp (contextual := true) (implicitDefEqProofs := false) (decide := true) (maxSteps := 1000000) only [x46, go_sem, eDN, hb, hp0, hk, L0, room_ge, apK_grow, row, apK_in, G0, G1, G2, G3, G4, G5, h1, ho]
  | true =>
    have hv := pk_bd (p := p + 1) (n := 3) hb h2 (by omega)
    by_cases v0 : pk b (p + 1) 3 = 0
    · refine ⟨⟨n ++ [⟨9, 0, 0⟩], [r0, r1, r2, r3, r4, r5]⟩, p + 1 + 1, ⟨by simp; omega, by simp, by simp [or_imp, forall_and]; omega⟩, by omega, by omega, ?_⟩
      rw [q46]; simp (contextual := true) (implicitDefEqProofs := false) (decide := true) (maxSteps := 1000000) only [x46, go_sem, eDN, hb, hp0, hk, L0, room_ge, apK_grow, row, apK_in, G0, G1, G2, G3, G4, G5, h1, h2, ho, v0, G, G', say]
    · by_cases v1 : pk b (p + 1) 3 = 1
      · refine ⟨⟨n, [r0, r1, r2, r3, r4, r5] ++ [[⟨0, 0, 0⟩, ⟨0, 0, 0⟩]]⟩, p + 1 + 1, ⟨by simp only []; omega, by simp, by simp [or_imp, forall_and]; omega⟩, by omega, by omega, ?_⟩
        rw [q46]; simp (contextual := true) (implicitDefEqProofs := false) (decide := true) (maxSteps := 1000000) only [x46, go_sem, eDN, hb, hp0, hk, L0, room_ge, apK_grow, row, apK_in, G0, G1, G2, G3, G4, G5, h1, h2, ho, v0, v1, G, G', say]
      · refine ⟨⟨List.replicate 6 ⟨0, 0, 0⟩, [r0, r1, r2, r3, r4, r5]⟩, p + 1 + 1, ⟨by simp, by simp, by simp [or_imp, forall_and]; omega⟩, by omega, by omega, ?_⟩
        rw [q46]; simp (contextual := true) (implicitDefEqProofs := false) (decide := true) (maxSteps := 1000000) only [x46, go_sem, eDN, hb, hp0, hk, L0, room_ge, apK_grow, row, apK_in, G0, G1, G2, G3, G4, G5, h1, h2, ho, v0, v1, G, G', say]
theorem tzD (N : Int) (b : List Int) (p0 p k : Nat) (hb : Rdr b) (hp0 : p0 ≤ 1000000) (hp : p0 ≤ p ∧ p ≤ p0 + 70) (hp1 : p ≤ 900000) (n : List Say) (R : List (List Say)) (z : Bool) (hR : R.length ≤ 6) (hd : n.length ≤ 5 ∧ ∀ r ∈ R, List.length r ≤ 5) (hk : pk b p0 7 = (k : Int)) (hN : N = 0)
    (L : CL E [0, 1, 4, 5, 6] [0, 1, 4, 5] (lb x46.1 0) ⟨mkT [(0, .mp 900 0 0 0), (1, .p (.int .i64 N)), (4, .mp 4 0 0 0), (5, .mp 5 0 0 0), (6, .p (.int .i64 (k : Nat)))], SD b (p0 + 1) [] [] false⟩ = some (.ex 0, ⟨mkT [(0, .mp 900 0 0 0), (1, .p (.int .i64 N)), (4, .mp 4 0 0 0), (5, .mp 5 0 0 0)], SD b p n R z⟩)) : DrD b p0 N := by
  cases R with
  | nil =>
    cases z with
    | false => exact tz046 N b p0 p k hb hp0 hp hp1 n hd.1 hk hN L
    | true => exact tz0s46 N b p0 p k hb hp0 hp hp1 n hd.1 hk hN L
  | cons r0 R =>
    cases R with
    | nil =>
      cases z with
      | false => exact tz146 N b p0 p k hb hp0 hp hp1 n r0 hd.1 (by have := hd.2 r0 (by simp); omega) hk hN L
      | true => exact tz1s46 N b p0 p k hb hp0 hp hp1 n r0 hd.1 (by have := hd.2 r0 (by simp); omega) hk hN L
    | cons r1 R =>
      cases R with
      | nil =>
        cases z with
        | false => exact tz246 N b p0 p k hb hp0 hp hp1 n r0 r1 hd.1 (by have := hd.2 r0 (by simp); omega) (by have := hd.2 r1 (by simp); omega) hk hN L
        | true => exact tz2s46 N b p0 p k hb hp0 hp hp1 n r0 r1 hd.1 (by have := hd.2 r0 (by simp); omega) (by have := hd.2 r1 (by simp); omega) hk hN L
      | cons r2 R =>
        cases R with
        | nil =>
          cases z with
          | false => exact tz346 N b p0 p k hb hp0 hp hp1 n r0 r1 r2 hd.1 (by have := hd.2 r0 (by simp); omega) (by have := hd.2 r1 (by simp); omega) (by have := hd.2 r2 (by simp); omega) hk hN L
          | true => exact tz3s46 N b p0 p k hb hp0 hp hp1 n r0 r1 r2 hd.1 (by have := hd.2 r0 (by simp); omega) (by have := hd.2 r1 (by simp); omega) (by have := hd.2 r2 (by simp); omega) hk hN L
        | cons r3 R =>
          cases R with
          | nil =>
            cases z with
            | false => exact tz446 N b p0 p k hb hp0 hp hp1 n r0 r1 r2 r3 hd.1 (by have := hd.2 r0 (by simp); omega) (by have := hd.2 r1 (by simp); omega) (by have := hd.2 r2 (by simp); omega) (by have := hd.2 r3 (by simp); omega) hk hN L
            | true => exact tz4s46 N b p0 p k hb hp0 hp hp1 n r0 r1 r2 r3 hd.1 (by have := hd.2 r0 (by simp); omega) (by have := hd.2 r1 (by simp); omega) (by have := hd.2 r2 (by simp); omega) (by have := hd.2 r3 (by simp); omega) hk hN L
          | cons r4 R =>
            cases R with
            | nil =>
              cases z with
              | false => exact tz546 N b p0 p k hb hp0 hp hp1 n r0 r1 r2 r3 r4 hd.1 (by have := hd.2 r0 (by simp); omega) (by have := hd.2 r1 (by simp); omega) (by have := hd.2 r2 (by simp); omega) (by have := hd.2 r3 (by simp); omega) (by have := hd.2 r4 (by simp); omega) hk hN L
              | true => exact tz5s46 N b p0 p k hb hp0 hp hp1 n r0 r1 r2 r3 r4 hd.1 (by have := hd.2 r0 (by simp); omega) (by have := hd.2 r1 (by simp); omega) (by have := hd.2 r2 (by simp); omega) (by have := hd.2 r3 (by simp); omega) (by have := hd.2 r4 (by simp); omega) hk hN L
            | cons r5 R =>
              cases R with
              | nil =>
                cases z with
                | false => exact tz646 N b p0 p k hb hp0 hp hp1 n r0 r1 r2 r3 r4 r5 hd.1 (by have := hd.2 r0 (by simp); omega) (by have := hd.2 r1 (by simp); omega) (by have := hd.2 r2 (by simp); omega) (by have := hd.2 r3 (by simp); omega) (by have := hd.2 r4 (by simp); omega) (by have := hd.2 r5 (by simp); omega) hk hN L
                | true => exact tz6s46 N b p0 p k hb hp0 hp hp1 n r0 r1 r2 r3 r4 r5 hd.1 (by have := hd.2 r0 (by simp); omega) (by have := hd.2 r1 (by simp); omega) (by have := hd.2 r2 (by simp); omega) (by have := hd.2 r3 (by simp); omega) (by have := hd.2 r4 (by simp); omega) (by have := hd.2 r5 (by simp); omega) hk hN L
              | cons r6 R =>
                exact absurd hR (by simp only [List.length_cons]; omega)
theorem tlD (N : Int) (b : List Int) (p0 p k : Nat) (hb : Rdr b) (hp0 : p0 ≤ 1000000) (hp : p0 ≤ p ∧ p ≤ p0 + 70) (hp1 : p ≤ 900000) (n : List Say) (R : List (List Say)) (z : Bool) (hR : R.length ≤ 6) (hd : n.length ≤ 5 ∧ ∀ r ∈ R, List.length r ≤ 5) (hk : pk b p0 7 = (k : Int)) (hN : N = 12)
    (L : CL E [0, 1, 4, 5, 6] [0, 1, 4, 5] (lb x46.1 0) ⟨mkT [(0, .mp 900 0 0 0), (1, .p (.int .i64 N)), (4, .mp 4 0 0 0), (5, .mp 5 0 0 0), (6, .p (.int .i64 (k : Nat)))], SD b (p0 + 1) [] [] false⟩ = some (.ex 0, ⟨mkT [(0, .mp 900 0 0 0), (1, .p (.int .i64 N)), (4, .mp 4 0 0 0), (5, .mp 5 0 0 0)], SD b p n R z⟩)) : DrD b p0 N := by
  cases R with
  | nil =>
    cases z with
    | false => exact tl046 N b p0 p k hb hp0 hp hp1 n hd.1 hk hN L
    | true => exact tl0s46 N b p0 p k hb hp0 hp hp1 n hd.1 hk hN L
  | cons r0 R =>
    cases R with
    | nil =>
      cases z with
      | false => exact tl146 N b p0 p k hb hp0 hp hp1 n r0 hd.1 (by have := hd.2 r0 (by simp); omega) hk hN L
      | true => exact tl1s46 N b p0 p k hb hp0 hp hp1 n r0 hd.1 (by have := hd.2 r0 (by simp); omega) hk hN L
    | cons r1 R =>
      cases R with
      | nil =>
        cases z with
        | false => exact tl246 N b p0 p k hb hp0 hp hp1 n r0 r1 hd.1 (by have := hd.2 r0 (by simp); omega) (by have := hd.2 r1 (by simp); omega) hk hN L
        | true => exact tl2s46 N b p0 p k hb hp0 hp hp1 n r0 r1 hd.1 (by have := hd.2 r0 (by simp); omega) (by have := hd.2 r1 (by simp); omega) hk hN L
      | cons r2 R =>
        cases R with
        | nil =>
          cases z with
          | false => exact tl346 N b p0 p k hb hp0 hp hp1 n r0 r1 r2 hd.1 (by have := hd.2 r0 (by simp); omega) (by have := hd.2 r1 (by simp); omega) (by have := hd.2 r2 (by simp); omega) hk hN L
          | true => exact tl3s46 N b p0 p k hb hp0 hp hp1 n r0 r1 r2 hd.1 (by have := hd.2 r0 (by simp); omega) (by have := hd.2 r1 (by simp); omega) (by have := hd.2 r2 (by simp); omega) hk hN L
        | cons r3 R =>
          cases R with
          | nil =>
            cases z with
            | false => exact tl446 N b p0 p k hb hp0 hp hp1 n r0 r1 r2 r3 hd.1 (by have := hd.2 r0 (by simp); omega) (by have := hd.2 r1 (by simp); omega) (by have := hd.2 r2 (by simp); omega) (by have := hd.2 r3 (by simp); omega) hk hN L
            | true => exact tl4s46 N b p0 p k hb hp0 hp hp1 n r0 r1 r2 r3 hd.1 (by have := hd.2 r0 (by simp); omega) (by have := hd.2 r1 (by simp); omega) (by have := hd.2 r2 (by simp); omega) (by have := hd.2 r3 (by simp); omega) hk hN L
          | cons r4 R =>
            cases R with
            | nil =>
              cases z with
              | false => exact tl546 N b p0 p k hb hp0 hp hp1 n r0 r1 r2 r3 r4 hd.1 (by have := hd.2 r0 (by simp); omega) (by have := hd.2 r1 (by simp); omega) (by have := hd.2 r2 (by simp); omega) (by have := hd.2 r3 (by simp); omega) (by have := hd.2 r4 (by simp); omega) hk hN L
              | true => exact tl5s46 N b p0 p k hb hp0 hp hp1 n r0 r1 r2 r3 r4 hd.1 (by have := hd.2 r0 (by simp); omega) (by have := hd.2 r1 (by simp); omega) (by have := hd.2 r2 (by simp); omega) (by have := hd.2 r3 (by simp); omega) (by have := hd.2 r4 (by simp); omega) hk hN L
            | cons r5 R =>
              cases R with
              | nil =>
                cases z with
                | false => exact tl646 N b p0 p k hb hp0 hp hp1 n r0 r1 r2 r3 r4 r5 hd.1 (by have := hd.2 r0 (by simp); omega) (by have := hd.2 r1 (by simp); omega) (by have := hd.2 r2 (by simp); omega) (by have := hd.2 r3 (by simp); omega) (by have := hd.2 r4 (by simp); omega) (by have := hd.2 r5 (by simp); omega) hk hN L
                | true => exact tl6s46 N b p0 p k hb hp0 hp hp1 n r0 r1 r2 r3 r4 r5 hd.1 (by have := hd.2 r0 (by simp); omega) (by have := hd.2 r1 (by simp); omega) (by have := hd.2 r2 (by simp); omega) (by have := hd.2 r3 (by simp); omega) (by have := hd.2 r4 (by simp); omega) (by have := hd.2 r5 (by simp); omega) hk hN L
              | cons r6 R =>
                exact absurd hR (by simp only [List.length_cons]; omega)
theorem drawn (N : Int) (hN : N = 0 ∨ N = 12) (b : List Int) (p : Nat) (hb : Rdr b) (hp : p ≤ 600000) : DrD b p N := by
  have hv := pk_bd (p := p) (n := 7) hb (by omega) (by omega)
  obtain ⟨k, hk⟩ := Int.eq_ofNat_of_zero_le hv.1
  obtain ⟨p', n', R', z', a1, a2, a3, a4, a5⟩ := allD N b hb _ rfl k (p + 1) [] [] false (by omega) (by omega) (by simp; omega) rfl
  have hd : n'.length ≤ 5 ∧ ∀ r ∈ R', List.length r ≤ 5 := by
    refine ⟨deskOk_len a4, fun r hr => ?_⟩
    simp only [deskOk, Bool.and_eq_true] at a4
    have := rowOk_lt (List.all_eq_true.1 a4.2 r hr)
    omega
  rcases hN with h | h
  · exact tzD N b p p' k hb (by omega) ⟨by omega, by omega⟩ (by omega) n' R' z' a3 hd hk h a5
  · exact tlD N b p p' k hb (by omega) ⟨by omega, by omega⟩ (by omega) n' R' z' a3 hd hk h a5
end Go.Proofs.YtjlebmnlphjjoaaGreatDoor.Fx
