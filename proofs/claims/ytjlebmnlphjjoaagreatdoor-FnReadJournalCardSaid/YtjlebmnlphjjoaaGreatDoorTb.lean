import Derived.Test.YtjlebmnlphjjoaaGreatDoorTa
set_option linter.unusedVariables false
set_option linter.unusedSimpArgs false
/- Drawn deeds; no condition. -/
open Go Go.Proofs.YtjlebmnlphjjoaaGreatDoor.Abs
namespace Go.Proofs.YtjlebmnlphjjoaaGreatDoor.Fx
set_option maxRecDepth 100000
set_option maxHeartbeats 8000000
set_option linter.unusedSimpArgs false
set_option linter.unusedVariables false
theorem wTo_size (s : Say) : (wTo s).size ≤ 100 := by
  unfold wTo
  split
  · have h1 := tT_size s.o
    have h2 := tT_size s.t
    have h3 := wA_size s.f
    have h4 := wM_size s.f
    unfold wT; simp only [ByteArray.size_append]; omega
  · exact Nat.zero_le _
structure St where (n : Int) (t : ByteArray) (p : Nat)
noncomputable def kd (b : List Int) (p : Nat) : Int := (if pk b p 6 ≤ 3 then 0 else pk b p 6 - 3) + (if pk b (p + 1) 60 = 59 then 3 else 0)
noncomputable def st1 (b : List Int) (p : Nat) (L : Nat) : St := if kd b p = 0 then ⟨0, wTo (wgh b (p + 1 + 1)), p + 1 + 1 + 1 + 1 + 1⟩ else if kd b p = 1 then ⟨pk b (p + 1 + 1) ((L + 1 : Nat) : Int), tx [], p + 1 + 1 + 1⟩ else ⟨0, tx [], p + 1 + 1⟩
noncomputable def st2 (b : List Int) (s : St) : St := if od b s.p 40 = true then ⟨s.n + pk b (s.p + 1) 20 - 5, s.t, s.p + 1 + 1⟩ else ⟨s.n, s.t, s.p + 1⟩
noncomputable def st3 (b : List Int) (s : St) : St := if od b s.p 40 = true then ⟨s.n, s.t ++ tx [115], s.p + 1⟩ else ⟨s.n, s.t, s.p + 1⟩
noncomputable def drD (b : List Int) (p : Nat) (L : Nat) : St := st3 b (st2 b (st1 b p L))
/-- A drawn deed. -/
noncomputable def drd (b : List Int) (p : Nat) (L : Nat) : Deed := ⟨kd b p, (drD b p L).n, (drD b p L).t⟩
theorem drD_bd {b : List Int} {p L : Nat} (hb : Rdr b) (hp : p ≤ 900000) (hL : L ≤ 100000) : p ≤ (drD b p L).p ∧ (drD b p L).p ≤ p + 9 ∧ -5 ≤ (drD b p L).n ∧ (drD b p L).n ≤ L + 20 ∧ (drD b p L).t.size ≤ 101 := by
  have h1 : p ≤ (st1 b p L).p ∧ (st1 b p L).p ≤ p + 5 ∧ 0 ≤ (st1 b p L).n ∧ (st1 b p L).n ≤ L ∧ (st1 b p L).t.size ≤ 100 := by
    have := pk_bd (p := p + 1 + 1) (n := ((L + 1 : Nat) : Int)) hb (by omega) (by omega)
    have h2 := wTo_size (wgh b (p + 1 + 1))
    unfold st1
    split
    · exact ⟨by simp; omega, by simp, by simp, by simp, h2⟩
    · split
      · exact ⟨by simp; omega, by simp, this.1, by simp only []; omega, by simp [tx_size]⟩
      · exact ⟨by simp; omega, by simp, by simp, by simp, by simp [tx_size]⟩
  have e : drD b p L = st3 b (st2 b (st1 b p L)) := rfl
  rw [e]
  generalize st1 b p L = s at h1
  have h2 : p ≤ (st2 b s).p ∧ (st2 b s).p ≤ p + 7 ∧ -5 ≤ (st2 b s).n ∧ (st2 b s).n ≤ L + 20 ∧ (st2 b s).t.size ≤ 100 := by
    have := pk_bd (p := s.p + 1) (n := 20) hb (by omega) (by omega)
    unfold st2
    split
    · exact ⟨by simp only []; omega, by simp only []; omega, by simp only []; omega, by simp only []; omega, h1.2.2.2.2⟩
    · exact ⟨by simp only []; omega, by simp only []; omega, by simp only []; omega, by simp only []; omega, h1.2.2.2.2⟩
  have h3 : ∀ s : St, p ≤ s.p → s.p ≤ p + 7 → -5 ≤ s.n → s.n ≤ L + 20 → s.t.size ≤ 100 → p ≤ (st3 b s).p ∧ (st3 b s).p ≤ p + 9 ∧ -5 ≤ (st3 b s).n ∧ (st3 b s).n ≤ L + 20 ∧ (st3 b s).t.size ≤ 101 := fun s a1 a2 a3 a4 a5 => by
    unfold st3
    split
    · exact ⟨by simp only []; omega, by simp only []; omega, by simp only []; omega, by simp only []; omega, by simp only [ByteArray.size_append, tx_size, List.length_cons, List.length_nil]; omega⟩
    · exact ⟨by simp only []; omega, by simp only []; omega, by simp only []; omega, by simp only []; omega, by simp only []; omega⟩
  exact h3 _ h2.1 h2.2.1 h2.2.2.1 h2.2.2.2.1 h2.2.2.2.2
theorem e082 (b : List Int) (p : Nat) (hb : Rdr b) (hp : p ≤ 800000) (N : List Say) (P : List (List Say)) (hN : N.length ≤ 1000) :
    CF E 82 [.mp 900 0 0 0, .p (.agg [.ls 3 (N.map say), .ls 1 (P.map row)])] [[.agg [.ls 1 (b.map u8), .int .i64 p]]] = some ⟨.p (.agg [.int .i64 (drd b p N.length).k, .int .i64 (drd b p N.length).n, .str (drd b p N.length).t]), [[.agg [.ls 1 (b.map u8), .int .i64 ((drD b p N.length).p : Nat)]]], []⟩ := by
  have p0 : p ≤ 1000000 := by omega
  have p1 : p + 1 ≤ 1000000 := by omega
  have p2 : p + 1 + 1 ≤ 900000 := by omega
  have p2' : p + 1 + 1 ≤ 1000000 := by omega
  have p3 : p + 1 + 1 + 1 ≤ 1000000 := by omega
  have p4 : p + 1 + 1 + 1 + 1 ≤ 1000000 := by omega
  have p5 : p + 1 + 1 + 1 + 1 + 1 ≤ 1000000 := by omega
  have p6 : p + 1 + 1 + 1 + 1 + 1 + 1 ≤ 1000000 := by omega
  have p7 : p + 1 + 1 + 1 + 1 + 1 + 1 + 1 ≤ 1000000 := by omega
  have b0 := pk_bd (p := p) (n := 6) hb p0 (by omega)
  have b1 := pk_bd (p := p + 1) (n := 60) hb p1 (by omega)
  have hw := wTo_size (wgh b (p + 1 + 1))
  have hw' : (wTo (wgh b (p + 1 + 1))).size + 1 ≤ 9223372036854775807 := by omega
  have b2 := pk_bd (p := p + 1 + 1) (n := ((N.length + 1 : Nat) : Int)) hb p2' (by omega)
  have hnl := w64s (n := N.length) (by omega)
  have hn1 : (1 : Int) ≤ ((N.length + 1 : Nat) : Int) := by omega
  have hx : [PV.int .i64 0, PV.int .i64 0, PV.int .i64 0, PV.int .i64 0, PV.int .i64 1, PV.int .i64 2][(pk b p 6).toNat]? = some (.int .i64 (if pk b p 6 ≤ 3 then 0 else pk b p 6 - 3)) := by
    generalize pk b p 6 = v at b0
    have : v = 0 ∨ v = 1 ∨ v = 2 ∨ v = 3 ∨ v = 4 ∨ v = 5 := by omega
    rcases this with rfl | rfl | rfl | rfl | rfl | rfl <;> rfl
  have hd : IntKind.wrap .i64 ((pk b (p + 1) 60).tdiv 59) = if pk b (p + 1) 60 = 59 then 1 else 0 := by
    generalize pk b (p + 1) 60 = v at b1
    split
    · rename_i h; subst h; rfl
    · rename_i h
      have : v.tdiv 59 = 0 := by rw [Int.tdiv_eq_ediv_of_nonneg b1.1]; omega
      rw [this]; rfl
  have hK : IntKind.wrap .i64 ((if pk b p 6 ≤ 3 then 0 else pk b p 6 - 3) + IntKind.wrap .i64 ((if pk b (p + 1) 60 = 59 then 1 else 0) * 3)) = kd b p := by
    unfold kd
    generalize pk b p 6 = v at b0
    generalize pk b (p + 1) 60 = u at b1
    have e : IntKind.wrap .i64 ((if u = 59 then 1 else 0) * 3) = if u = 59 then 3 else 0 := by split <;> rfl
    rw [e]
    split <;> split <;> rw [w64] <;> omega
  generalize hX : (if pk b p 6 ≤ 3 then 0 else pk b p 6 - 3) = X at hx hK
  generalize hY : (if pk b (p + 1) 60 = 59 then (1 : Int) else 0) = Y at hd hK
  by_cases k0 : kd b p = 0
  · have es : drD b p N.length = st3 b (st2 b ⟨0, wTo (wgh b (p + 1 + 1)), p + 1 + 1 + 1 + 1 + 1⟩) := by rw [drD, st1, if_pos k0]
    have c0 := pk_bd (p := p + 1 + 1 + 1 + 1 + 1 + 1) (n := 20) hb p6 (by omega)
    have w1 : IntKind.wrap .i64 (0 + pk b (p + 1 + 1 + 1 + 1 + 1 + 1) 20) = 0 + pk b (p + 1 + 1 + 1 + 1 + 1 + 1) 20 := w64 (by omega) (by omega)
    have w2 : IntKind.wrap .i64 (0 + pk b (p + 1 + 1 + 1 + 1 + 1 + 1) 20 - 5) = 0 + pk b (p + 1 + 1 + 1 + 1 + 1 + 1) 20 - 5 := w64 (by omega) (by omega)
    cases o1 : od b (p + 1 + 1 + 1 + 1 + 1) 40
    · cases o2 : od b (p + 1 + 1 + 1 + 1 + 1 + 1) 40 <;>
      · simp only [drd, es, st2, st3, o1, o2, Bool.false_eq_true, if_false, if_true]
        rw [q82]; simp (contextual := true) (implicitDefEqProofs := false) (decide := true) (maxSteps := 1000000) only [x82, go_sem, hb, p0, p1, p2, p2', p3, p4, p5, p6, p7, b0.1, hx, hd, hK, k0, o1, o2, hw, hw', hnl, hn1]
    · cases o2 : od b (p + 1 + 1 + 1 + 1 + 1 + 1 + 1) 40 <;>
      · simp only [drd, es, st2, st3, o1, o2, Bool.false_eq_true, if_false, if_true]
        rw [q82]; simp (contextual := true) (implicitDefEqProofs := false) (decide := true) (maxSteps := 1000000) only [x82, go_sem, hb, p0, p1, p2, p2', p3, p4, p5, p6, p7, b0.1, hx, hd, hK, k0, o1, o2, hw, hw', hnl, hn1, w1, w2]
  · by_cases k1 : kd b p = 1
    · have es : drD b p N.length = st3 b (st2 b ⟨pk b (p + 1 + 1) ((N.length + 1 : Nat) : Int), tx [], p + 1 + 1 + 1⟩) := by rw [drD, st1, if_neg k0, if_pos k1]
      have c0 := pk_bd (p := p + 1 + 1 + 1 + 1) (n := 20) hb p4 (by omega)
      have w1 : IntKind.wrap .i64 (pk b (p + 1 + 1) ((N.length + 1 : Nat) : Int) + pk b (p + 1 + 1 + 1 + 1) 20) = pk b (p + 1 + 1) ((N.length + 1 : Nat) : Int) + pk b (p + 1 + 1 + 1 + 1) 20 := w64 (by omega) (by omega)
      have w2 : IntKind.wrap .i64 (pk b (p + 1 + 1) ((N.length + 1 : Nat) : Int) + pk b (p + 1 + 1 + 1 + 1) 20 - 5) = pk b (p + 1 + 1) ((N.length + 1 : Nat) : Int) + pk b (p + 1 + 1 + 1 + 1) 20 - 5 := w64 (by omega) (by omega)
      cases o1 : od b (p + 1 + 1 + 1) 40
      · cases o2 : od b (p + 1 + 1 + 1 + 1) 40 <;>
        · simp only [drd, es, st2, st3, o1, o2, Bool.false_eq_true, if_false, if_true]
          rw [q82]; simp (contextual := true) (implicitDefEqProofs := false) (decide := true) (maxSteps := 1000000) only [x82, go_sem, hb, p0, p1, p2, p2', p3, p4, p5, p6, p7, b0.1, hx, hd, hK, k0, k1, o1, o2, hnl, hn1, tx_append]
      · cases o2 : od b (p + 1 + 1 + 1 + 1 + 1) 40 <;>
        · simp only [drd, es, st2, st3, o1, o2, Bool.false_eq_true, if_false, if_true]
          rw [q82]; simp (contextual := true) (implicitDefEqProofs := false) (decide := true) (maxSteps := 1000000) only [x82, go_sem, hb, p0, p1, p2, p2', p3, p4, p5, p6, p7, b0.1, hx, hd, hK, k0, k1, o1, o2, hnl, hn1, w1, w2, tx_append]
    · have es : drD b p N.length = st3 b (st2 b ⟨0, tx [], p + 1 + 1⟩) := by rw [drD, st1, if_neg k0, if_neg k1]
      have c0 := pk_bd (p := p + 1 + 1 + 1) (n := 20) hb p3 (by omega)
      have w1 : IntKind.wrap .i64 (0 + pk b (p + 1 + 1 + 1) 20) = 0 + pk b (p + 1 + 1 + 1) 20 := w64 (by omega) (by omega)
      have w2 : IntKind.wrap .i64 (0 + pk b (p + 1 + 1 + 1) 20 - 5) = 0 + pk b (p + 1 + 1 + 1) 20 - 5 := w64 (by omega) (by omega)
      cases o1 : od b (p + 1 + 1) 40
      · cases o2 : od b (p + 1 + 1 + 1) 40 <;>
        · simp only [drd, es, st2, st3, o1, o2, Bool.false_eq_true, if_false, if_true]
          rw [q82]; simp (contextual := true) (implicitDefEqProofs := false) (decide := true) (maxSteps := 1000000) only [x82, go_sem, hb, p0, p1, p2, p2', p3, p4, p5, p6, p7, b0.1, hx, hd, hK, k0, k1, o1, o2, tx_append]
      · cases o2 : od b (p + 1 + 1 + 1 + 1) 40 <;>
        · simp only [drd, es, st2, st3, o1, o2, Bool.false_eq_true, if_false, if_true]
          rw [q82]; simp (contextual := true) (implicitDefEqProofs := false) (decide := true) (maxSteps := 1000000) only [x82, go_sem, hb, p0, p1, p2, p2', p3, p4, p5, p6, p7, b0.1, hx, hd, hK, k0, k1, o1, o2, w1, w2, tx_append]
theorem e182 (b : List Int) (p : Nat) (hb : Rdr b) (hp : p ≤ 800000) (N : List Say) (X : AV) (hN : N.length ≤ 1000) :
    CF E 82 [.mp 900 0 0 0, .ag [.ms 901 0 0 N.length 3, X]] [[.agg [.ls 1 (b.map u8), .int .i64 p]], N.map say] = some ⟨.p (.agg [.int .i64 (drd b p N.length).k, .int .i64 (drd b p N.length).n, .str (drd b p N.length).t]), [[.agg [.ls 1 (b.map u8), .int .i64 ((drD b p N.length).p : Nat)]], N.map say], []⟩ := by
  have p0 : p ≤ 1000000 := by omega
  have p1 : p + 1 ≤ 1000000 := by omega
  have p2 : p + 1 + 1 ≤ 900000 := by omega
  have p2' : p + 1 + 1 ≤ 1000000 := by omega
  have p3 : p + 1 + 1 + 1 ≤ 1000000 := by omega
  have p4 : p + 1 + 1 + 1 + 1 ≤ 1000000 := by omega
  have p5 : p + 1 + 1 + 1 + 1 + 1 ≤ 1000000 := by omega
  have p6 : p + 1 + 1 + 1 + 1 + 1 + 1 ≤ 1000000 := by omega
  have p7 : p + 1 + 1 + 1 + 1 + 1 + 1 + 1 ≤ 1000000 := by omega
  have b0 := pk_bd (p := p) (n := 6) hb p0 (by omega)
  have b1 := pk_bd (p := p + 1) (n := 60) hb p1 (by omega)
  have hw := wTo_size (wgh b (p + 1 + 1))
  have hw' : (wTo (wgh b (p + 1 + 1))).size + 1 ≤ 9223372036854775807 := by omega
  have b2 := pk_bd (p := p + 1 + 1) (n := ((N.length + 1 : Nat) : Int)) hb p2' (by omega)
  have hnl := w64s (n := N.length) (by omega)
  have hn1 : (1 : Int) ≤ ((N.length + 1 : Nat) : Int) := by omega
  have hx : [PV.int .i64 0, PV.int .i64 0, PV.int .i64 0, PV.int .i64 0, PV.int .i64 1, PV.int .i64 2][(pk b p 6).toNat]? = some (.int .i64 (if pk b p 6 ≤ 3 then 0 else pk b p 6 - 3)) := by
    generalize pk b p 6 = v at b0
    have : v = 0 ∨ v = 1 ∨ v = 2 ∨ v = 3 ∨ v = 4 ∨ v = 5 := by omega
    rcases this with rfl | rfl | rfl | rfl | rfl | rfl <;> rfl
  have hd : IntKind.wrap .i64 ((pk b (p + 1) 60).tdiv 59) = if pk b (p + 1) 60 = 59 then 1 else 0 := by
    generalize pk b (p + 1) 60 = v at b1
    split
    · rename_i h; subst h; rfl
    · rename_i h
      have : v.tdiv 59 = 0 := by rw [Int.tdiv_eq_ediv_of_nonneg b1.1]; omega
      rw [this]; rfl
  have hK : IntKind.wrap .i64 ((if pk b p 6 ≤ 3 then 0 else pk b p 6 - 3) + IntKind.wrap .i64 ((if pk b (p + 1) 60 = 59 then 1 else 0) * 3)) = kd b p := by
    unfold kd
    generalize pk b p 6 = v at b0
    generalize pk b (p + 1) 60 = u at b1
    have e : IntKind.wrap .i64 ((if u = 59 then 1 else 0) * 3) = if u = 59 then 3 else 0 := by split <;> rfl
    rw [e]
    split <;> split <;> rw [w64] <;> omega
  generalize hX : (if pk b p 6 ≤ 3 then 0 else pk b p 6 - 3) = X at hx hK
  generalize hY : (if pk b (p + 1) 60 = 59 then (1 : Int) else 0) = Y at hd hK
  by_cases k0 : kd b p = 0
  · have es : drD b p N.length = st3 b (st2 b ⟨0, wTo (wgh b (p + 1 + 1)), p + 1 + 1 + 1 + 1 + 1⟩) := by rw [drD, st1, if_pos k0]
    have c0 := pk_bd (p := p + 1 + 1 + 1 + 1 + 1 + 1) (n := 20) hb p6 (by omega)
    have w1 : IntKind.wrap .i64 (0 + pk b (p + 1 + 1 + 1 + 1 + 1 + 1) 20) = 0 + pk b (p + 1 + 1 + 1 + 1 + 1 + 1) 20 := w64 (by omega) (by omega)
    have w2 : IntKind.wrap .i64 (0 + pk b (p + 1 + 1 + 1 + 1 + 1 + 1) 20 - 5) = 0 + pk b (p + 1 + 1 + 1 + 1 + 1 + 1) 20 - 5 := w64 (by omega) (by omega)
    cases o1 : od b (p + 1 + 1 + 1 + 1 + 1) 40
    · cases o2 : od b (p + 1 + 1 + 1 + 1 + 1 + 1) 40 <;>
      · simp only [drd, es, st2, st3, o1, o2, Bool.false_eq_true, if_false, if_true]
        rw [q82]; simp (contextual := true) (implicitDefEqProofs := false) (decide := true) (maxSteps := 1000000) only [x82, go_sem, hb, p0, p1, p2, p2', p3, p4, p5, p6, p7, b0.1, hx, hd, hK, k0, o1, o2, hw, hw', hnl, hn1]
    · cases o2 : od b (p + 1 + 1 + 1 + 1 + 1 + 1 + 1) 40 <;>
      · simp only [drd, es, st2, st3, o1, o2, Bool.false_eq_true, if_false, if_true]
        rw [q82]; simp (contextual := true) (implicitDefEqProofs := false) (decide := true) (maxSteps := 1000000) only [x82, go_sem, hb, p0, p1, p2, p2', p3, p4, p5, p6, p7, b0.1, hx, hd, hK, k0, o1, o2, hw, hw', hnl, hn1, w1, w2]
  · by_cases k1 : kd b p = 1
    · have es : drD b p N.length = st3 b (st2 b ⟨pk b (p + 1 + 1) ((N.length + 1 : Nat) : Int), tx [], p + 1 + 1 + 1⟩) := by rw [drD, st1, if_neg k0, if_pos k1]
      have c0 := pk_bd (p := p + 1 + 1 + 1 + 1) (n := 20) hb p4 (by omega)
      have w1 : IntKind.wrap .i64 (pk b (p + 1 + 1) ((N.length + 1 : Nat) : Int) + pk b (p + 1 + 1 + 1 + 1) 20) = pk b (p + 1 + 1) ((N.length + 1 : Nat) : Int) + pk b (p + 1 + 1 + 1 + 1) 20 := w64 (by omega) (by omega)
      have w2 : IntKind.wrap .i64 (pk b (p + 1 + 1) ((N.length + 1 : Nat) : Int) + pk b (p + 1 + 1 + 1 + 1) 20 - 5) = pk b (p + 1 + 1) ((N.length + 1 : Nat) : Int) + pk b (p + 1 + 1 + 1 + 1) 20 - 5 := w64 (by omega) (by omega)
      cases o1 : od b (p + 1 + 1 + 1) 40
      · cases o2 : od b (p + 1 + 1 + 1 + 1) 40 <;>
        · simp only [drd, es, st2, st3, o1, o2, Bool.false_eq_true, if_false, if_true]
          rw [q82]; simp (contextual := true) (implicitDefEqProofs := false) (decide := true) (maxSteps := 1000000) only [x82, go_sem, hb, p0, p1, p2, p2', p3, p4, p5, p6, p7, b0.1, hx, hd, hK, k0, k1, o1, o2, hnl, hn1, tx_append]
      · cases o2 : od b (p + 1 + 1 + 1 + 1 + 1) 40 <;>
        · simp only [drd, es, st2, st3, o1, o2, Bool.false_eq_true, if_false, if_true]
          rw [q82]; simp (contextual := true) (implicitDefEqProofs := false) (decide := true) (maxSteps := 1000000) only [x82, go_sem, hb, p0, p1, p2, p2', p3, p4, p5, p6, p7, b0.1, hx, hd, hK, k0, k1, o1, o2, hnl, hn1, w1, w2, tx_append]
    · have es : drD b p N.length = st3 b (st2 b ⟨0, tx [], p + 1 + 1⟩) := by rw [drD, st1, if_neg k0, if_neg k1]
      have c0 := pk_bd (p := p + 1 + 1 + 1) (n := 20) hb p3 (by omega)
      have w1 : IntKind.wrap .i64 (0 + pk b (p + 1 + 1 + 1) 20) = 0 + pk b (p + 1 + 1 + 1) 20 := w64 (by omega) (by omega)
      have w2 : IntKind.wrap .i64 (0 + pk b (p + 1 + 1 + 1) 20 - 5) = 0 + pk b (p + 1 + 1 + 1) 20 - 5 := w64 (by omega) (by omega)
      cases o1 : od b (p + 1 + 1) 40
      · cases o2 : od b (p + 1 + 1 + 1) 40 <;>
        · simp only [drd, es, st2, st3, o1, o2, Bool.false_eq_true, if_false, if_true]
          rw [q82]; simp (contextual := true) (implicitDefEqProofs := false) (decide := true) (maxSteps := 1000000) only [x82, go_sem, hb, p0, p1, p2, p2', p3, p4, p5, p6, p7, b0.1, hx, hd, hK, k0, k1, o1, o2, tx_append]
      · cases o2 : od b (p + 1 + 1 + 1 + 1) 40 <;>
        · simp only [drd, es, st2, st3, o1, o2, Bool.false_eq_true, if_false, if_true]
          rw [q82]; simp (contextual := true) (implicitDefEqProofs := false) (decide := true) (maxSteps := 1000000) only [x82, go_sem, hb, p0, p1, p2, p2', p3, p4, p5, p6, p7, b0.1, hx, hd, hK, k0, k1, o1, o2, w1, w2, tx_append]
theorem e282 (b : List Int) (p : Nat) (hb : Rdr b) (hp : p ≤ 800000) (N : List Say) (X : AV) (B : List PV) (hN : N.length ≤ 1000) :
    CF E 82 [.mp 900 0 0 0, .ag [.ms 901 0 0 N.length 3, X]] [[.agg [.ls 1 (b.map u8), .int .i64 p]], N.map say, B] = some ⟨.p (.agg [.int .i64 (drd b p N.length).k, .int .i64 (drd b p N.length).n, .str (drd b p N.length).t]), [[.agg [.ls 1 (b.map u8), .int .i64 ((drD b p N.length).p : Nat)]], N.map say, B], []⟩ := by
  have p0 : p ≤ 1000000 := by omega
  have p1 : p + 1 ≤ 1000000 := by omega
  have p2 : p + 1 + 1 ≤ 900000 := by omega
  have p2' : p + 1 + 1 ≤ 1000000 := by omega
  have p3 : p + 1 + 1 + 1 ≤ 1000000 := by omega
  have p4 : p + 1 + 1 + 1 + 1 ≤ 1000000 := by omega
  have p5 : p + 1 + 1 + 1 + 1 + 1 ≤ 1000000 := by omega
  have p6 : p + 1 + 1 + 1 + 1 + 1 + 1 ≤ 1000000 := by omega
  have p7 : p + 1 + 1 + 1 + 1 + 1 + 1 + 1 ≤ 1000000 := by omega
  have b0 := pk_bd (p := p) (n := 6) hb p0 (by omega)
  have b1 := pk_bd (p := p + 1) (n := 60) hb p1 (by omega)
  have hw := wTo_size (wgh b (p + 1 + 1))
  have hw' : (wTo (wgh b (p + 1 + 1))).size + 1 ≤ 9223372036854775807 := by omega
  have b2 := pk_bd (p := p + 1 + 1) (n := ((N.length + 1 : Nat) : Int)) hb p2' (by omega)
  have hnl := w64s (n := N.length) (by omega)
  have hn1 : (1 : Int) ≤ ((N.length + 1 : Nat) : Int) := by omega
  have hx : [PV.int .i64 0, PV.int .i64 0, PV.int .i64 0, PV.int .i64 0, PV.int .i64 1, PV.int .i64 2][(pk b p 6).toNat]? = some (.int .i64 (if pk b p 6 ≤ 3 then 0 else pk b p 6 - 3)) := by
    generalize pk b p 6 = v at b0
    have : v = 0 ∨ v = 1 ∨ v = 2 ∨ v = 3 ∨ v = 4 ∨ v = 5 := by omega
    rcases this with rfl | rfl | rfl | rfl | rfl | rfl <;> rfl
  have hd : IntKind.wrap .i64 ((pk b (p + 1) 60).tdiv 59) = if pk b (p + 1) 60 = 59 then 1 else 0 := by
    generalize pk b (p + 1) 60 = v at b1
    split
    · rename_i h; subst h; rfl
    · rename_i h
      have : v.tdiv 59 = 0 := by rw [Int.tdiv_eq_ediv_of_nonneg b1.1]; omega
      rw [this]; rfl
  have hK : IntKind.wrap .i64 ((if pk b p 6 ≤ 3 then 0 else pk b p 6 - 3) + IntKind.wrap .i64 ((if pk b (p + 1) 60 = 59 then 1 else 0) * 3)) = kd b p := by
    unfold kd
    generalize pk b p 6 = v at b0
    generalize pk b (p + 1) 60 = u at b1
    have e : IntKind.wrap .i64 ((if u = 59 then 1 else 0) * 3) = if u = 59 then 3 else 0 := by split <;> rfl
    rw [e]
    split <;> split <;> rw [w64] <;> omega
  generalize hX : (if pk b p 6 ≤ 3 then 0 else pk b p 6 - 3) = X at hx hK
  generalize hY : (if pk b (p + 1) 60 = 59 then (1 : Int) else 0) = Y at hd hK
  by_cases k0 : kd b p = 0
  · have es : drD b p N.length = st3 b (st2 b ⟨0, wTo (wgh b (p + 1 + 1)), p + 1 + 1 + 1 + 1 + 1⟩) := by rw [drD, st1, if_pos k0]
    have c0 := pk_bd (p := p + 1 + 1 + 1 + 1 + 1 + 1) (n := 20) hb p6 (by omega)
    have w1 : IntKind.wrap .i64 (0 + pk b (p + 1 + 1 + 1 + 1 + 1 + 1) 20) = 0 + pk b (p + 1 + 1 + 1 + 1 + 1 + 1) 20 := w64 (by omega) (by omega)
    have w2 : IntKind.wrap .i64 (0 + pk b (p + 1 + 1 + 1 + 1 + 1 + 1) 20 - 5) = 0 + pk b (p + 1 + 1 + 1 + 1 + 1 + 1) 20 - 5 := w64 (by omega) (by omega)
    cases o1 : od b (p + 1 + 1 + 1 + 1 + 1) 40
    · cases o2 : od b (p + 1 + 1 + 1 + 1 + 1 + 1) 40 <;>
      · simp only [drd, es, st2, st3, o1, o2, Bool.false_eq_true, if_false, if_true]
        rw [q82]; simp (contextual := true) (implicitDefEqProofs := false) (decide := true) (maxSteps := 1000000) only [x82, go_sem, hb, p0, p1, p2, p2', p3, p4, p5, p6, p7, b0.1, hx, hd, hK, k0, o1, o2, hw, hw', hnl, hn1]
    · cases o2 : od b (p + 1 + 1 + 1 + 1 + 1 + 1 + 1) 40 <;>
      · simp only [drd, es, st2, st3, o1, o2, Bool.false_eq_true, if_false, if_true]
        rw [q82]; simp (contextual := true) (implicitDefEqProofs := false) (decide := true) (maxSteps := 1000000) only [x82, go_sem, hb, p0, p1, p2, p2', p3, p4, p5, p6, p7, b0.1, hx, hd, hK, k0, o1, o2, hw, hw', hnl, hn1, w1, w2]
  · by_cases k1 : kd b p = 1
    · have es : drD b p N.length = st3 b (st2 b ⟨pk b (p + 1 + 1) ((N.length + 1 : Nat) : Int), tx [], p + 1 + 1 + 1⟩) := by rw [drD, st1, if_neg k0, if_pos k1]
      have c0 := pk_bd (p := p + 1 + 1 + 1 + 1) (n := 20) hb p4 (by omega)
      have w1 : IntKind.wrap .i64 (pk b (p + 1 + 1) ((N.length + 1 : Nat) : Int) + pk b (p + 1 + 1 + 1 + 1) 20) = pk b (p + 1 + 1) ((N.length + 1 : Nat) : Int) + pk b (p + 1 + 1 + 1 + 1) 20 := w64 (by omega) (by omega)
      have w2 : IntKind.wrap .i64 (pk b (p + 1 + 1) ((N.length + 1 : Nat) : Int) + pk b (p + 1 + 1 + 1 + 1) 20 - 5) = pk b (p + 1 + 1) ((N.length + 1 : Nat) : Int) + pk b (p + 1 + 1 + 1 + 1) 20 - 5 := w64 (by omega) (by omega)
      cases o1 : od b (p + 1 + 1 + 1) 40
      · cases o2 : od b (p + 1 + 1 + 1 + 1) 40 <;>
        · simp only [drd, es, st2, st3, o1, o2, Bool.false_eq_true, if_false, if_true]
          rw [q82]; simp (contextual := true) (implicitDefEqProofs := false) (decide := true) (maxSteps := 1000000) only [x82, go_sem, hb, p0, p1, p2, p2', p3, p4, p5, p6, p7, b0.1, hx, hd, hK, k0, k1, o1, o2, hnl, hn1, tx_append]
      · cases o2 : od b (p + 1 + 1 + 1 + 1 + 1) 40 <;>
        · simp only [drd, es, st2, st3, o1, o2, Bool.false_eq_true, if_false, if_true]
          rw [q82]; simp (contextual := true) (implicitDefEqProofs := false) (decide := true) (maxSteps := 1000000) only [x82, go_sem, hb, p0, p1, p2, p2', p3, p4, p5, p6, p7, b0.1, hx, hd, hK, k0, k1, o1, o2, hnl, hn1, w1, w2, tx_append]
    · have es : drD b p N.length = st3 b (st2 b ⟨0, tx [], p + 1 + 1⟩) := by rw [drD, st1, if_neg k0, if_neg k1]
      have c0 := pk_bd (p := p + 1 + 1 + 1) (n := 20) hb p3 (by omega)
      have w1 : IntKind.wrap .i64 (0 + pk b (p + 1 + 1 + 1) 20) = 0 + pk b (p + 1 + 1 + 1) 20 := w64 (by omega) (by omega)
      have w2 : IntKind.wrap .i64 (0 + pk b (p + 1 + 1 + 1) 20 - 5) = 0 + pk b (p + 1 + 1 + 1) 20 - 5 := w64 (by omega) (by omega)
      cases o1 : od b (p + 1 + 1) 40
      · cases o2 : od b (p + 1 + 1 + 1) 40 <;>
        · simp only [drd, es, st2, st3, o1, o2, Bool.false_eq_true, if_false, if_true]
          rw [q82]; simp (contextual := true) (implicitDefEqProofs := false) (decide := true) (maxSteps := 1000000) only [x82, go_sem, hb, p0, p1, p2, p2', p3, p4, p5, p6, p7, b0.1, hx, hd, hK, k0, k1, o1, o2, tx_append]
      · cases o2 : od b (p + 1 + 1 + 1 + 1) 40 <;>
        · simp only [drd, es, st2, st3, o1, o2, Bool.false_eq_true, if_false, if_true]
          rw [q82]; simp (contextual := true) (implicitDefEqProofs := false) (decide := true) (maxSteps := 1000000) only [x82, go_sem, hb, p0, p1, p2, p2', p3, p4, p5, p6, p7, b0.1, hx, hd, hK, k0, k1, o1, o2, w1, w2, tx_append]
end Go.Proofs.YtjlebmnlphjjoaaGreatDoor.Fx
