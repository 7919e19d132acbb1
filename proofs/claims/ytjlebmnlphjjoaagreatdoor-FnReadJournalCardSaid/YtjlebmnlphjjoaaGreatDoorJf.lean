import Derived.Test.YtjlebmnlphjjoaaGreatDoorJe
set_option linter.unusedVariables false
set_option linter.unusedSimpArgs false
/- Journals are written and read, by both; no condition. -/
open Go Go.Proofs.YtjlebmnlphjjoaaGreatDoor.Abs
namespace Go.Proofs.YtjlebmnlphjjoaaGreatDoor.Fx
set_option maxRecDepth 100000
set_option maxHeartbeats 8000000
set_option linter.unusedSimpArgs false
set_option linter.unusedVariables false
theorem dB_size (a : Deed) : (dB a).size ≤ a.t.size + 6 := by
  unfold dB
  split
  · rw [ByteArray.size_append, tx_size]; simp; omega
  · split
    · rw [ByteArray.size_append, tx_size, dg_size]; simp
    · split
      · rw [tx_size]; simp
      · rw [tx_size]; simp
/-- The text of a journal behind a text. -/
def jT (acc : ByteArray) : List Deed → ByteArray
  | [] => acc
  | x :: r => if dB x = tx [] then acc else jT (acc ++ dB x ++ tx [10]) r
def jN : List Deed → Bool
  | [] => true
  | x :: r => !decide (dB x = tx []) && jN r
theorem lp39 (L : List Deed) (hL : L.length ≤ 100000) (hS : ∀ a ∈ L, a.t.size ≤ 100000) (b : AC) (hb : b = lb x39.1 0) : ∀ (l : List Deed) (i : Nat) (acc : ByteArray), L.drop i = l → acc.size ≤ i * 100007 →
   CL E [0, 3, 4] [2, 3] b ⟨mkT [(0, .p (.ls 3 (L.map deed))), (3, .p (.str acc)), (4, .p (.int .i64 i))], mkS []⟩ =
    bif jN l then some (.ex 0, ⟨mkT [(2, .un), (3, .p (.str (jT acc l)))], mkS []⟩) else some (.ret, ⟨mkT [(2, .p (.str (tx []))), (3, .p (.str (jT acc l)))], mkS []⟩) := by
  simp only [x39, go_sem] at hb; subst hb
  intro l; induction l with
  | nil =>
    intro i acc hi ha; have h1 := dropn hi
    have h2 : ¬ ((i : Int) < L.length) := by omega
    rw [loop_eq]; simp (contextual := true) (implicitDefEqProofs := false) (decide := true) (maxSteps := 1000000) only [go_sem, h2, jT, jN]
  | cons a l ih =>
    intro i acc hi ha; obtain ⟨h1, h2, h3, h4⟩ := dropc hi
    have h5 : ((i : Int) < L.length) := by omega
    have h6 := w64s (n := i) (by omega)
    have h7 := hS a (List.mem_of_getElem? h2)
    have h8 : a.t.size ≤ room := by unfold room; omega
    have hd := dB_size a
    have hz : acc.size + (dB a).size ≤ 9223372036854775807 := by omega
    have hz2 : acc.size + (dB a).size ≤ 9223372036854775806 := by omega
    unfold jN jT
    by_cases kd : dB a = tx []
    · have kd' : (dB ⟨a.k, a.n, a.t⟩ = tx []) = True := eq_true kd
      rw [decide_eq_true kd, Bool.not_true, Bool.false_and, cond_false, if_pos kd]
      rw [loop_eq]; simp (contextual := true) (implicitDefEqProofs := false) (decide := true) (maxSteps := 1000000) only [go_sem, h2, h5, h6, deed, kd', h8]
    · have kd' : (dB ⟨a.k, a.n, a.t⟩ = tx []) = False := eq_false kd
      have ih := ih (i + 1) (acc ++ dB a ++ tx [10]) h3 (by rw [ByteArray.size_append, ByteArray.size_append, tx_size]; simp only [List.length_cons, List.length_nil]; omega)
      rw [decide_eq_false kd, Bool.not_false, Bool.true_and, if_neg kd, ← ih]
      have e : dB a = dB ⟨a.k, a.n, a.t⟩ := rfl
      rw [e] at hz hz2 ⊢
      rw [loop_eq]; simp (contextual := true) (implicitDefEqProofs := false) (decide := true) (maxSteps := 1000000) only [go_sem, h2, h5, h6, deed, kd', h8, hz, hz2]
theorem jT_app : ∀ (L : List Deed) (acc : ByteArray), jN L = true → jT acc L = acc ++ jT (tx []) L
  | [], acc, _ => by simp only [jT, tx_nil, ByteArray.append_empty]
  | x :: r, acc, h => by
    simp only [jN, Bool.and_eq_true, Bool.not_eq_true', decide_eq_false_iff_not] at h
    unfold jT
    rw [if_neg h.1, if_neg h.1, jT_app r _ h.2, jT_app r (tx [] ++ dB x ++ tx [10]) h.2, tx_nil, ByteArray.empty_append, ByteArray.append_assoc, ByteArray.append_assoc, ByteArray.append_assoc]
def jTo (L : List Deed) : ByteArray := bif jN L then jT (tx []) L else tx []
theorem e39 (L : List Deed) (hL : L.length ≤ 100000) (hS : ∀ a ∈ L, a.t.size ≤ 100000) : CF E 39 [.p (.ls 3 (L.map deed))] [] = some ⟨.p (.str (jTo L)), [], []⟩ := by
  have h := lp39 L hL hS _ rfl L 0 (tx []) rfl (by rw [tx_size]; simp)
  unfold jTo
  simp (contextual := true) (implicitDefEqProofs := false) (decide := true) (maxSteps := 1000000) only [x39, go_sem] at h
  rw [q39]
  cases hj : jN L <;> rw [hj] at h <;> simp (contextual := true) (implicitDefEqProofs := false) (decide := true) (maxSteps := 1000000) only [x39, go_sem, h]
theorem lp17 (L : List Deed) (hL : L.length ≤ 100000) (hS : ∀ a ∈ L, a.t.size ≤ 100000) (b : AC) (hb : b = lb x17.1 0) : ∀ (l : List Deed) (i : Nat) (acc : ByteArray), L.drop i = l → acc.size ≤ i * 100007 →
   CL E [3, 7, 8, 9] [2, 3] b ⟨mkT [(3, .p (.str acc)), (7, .p (.ls 3 (L.map deed))), (8, .p (.int .i64 L.length)), (9, .p (.int .i64 i))], mkS []⟩ =
    bif jN l then some (.ex 0, ⟨mkT [(2, .un), (3, .p (.str (jT acc l)))], mkS []⟩) else some (.ret, ⟨mkT [(2, .p (.str (tx []))), (3, .p (.str (jT acc l)))], mkS []⟩) := by
  simp only [x17, go_sem] at hb; subst hb
  intro l; induction l with
  | nil =>
    intro i acc hi ha; have h1 := dropn hi
    have h2 : ¬ ((i : Int) < L.length) := by omega
    rw [loop_eq]; simp (contextual := true) (implicitDefEqProofs := false) (decide := true) (maxSteps := 1000000) only [go_sem, h2, jT, jN]
  | cons a l ih =>
    intro i acc hi ha; obtain ⟨h1, h2, h3, h4⟩ := dropc hi
    have h5 : ((i : Int) < L.length) := by omega
    have h6 := w64s (n := i) (by omega)
    have h7 := hS a (List.mem_of_getElem? h2)
    have h8 : a.t.size ≤ room := by unfold room; omega
    have hd := dB_size a
    have hz : (dB a).size ≤ 9223372036854775806 := by omega
    have hz2 : acc.size + ((dB a).size + 1) ≤ 9223372036854775807 := by omega
    unfold jN jT
    by_cases kd : dB a = tx []
    · have kd' : (dB ⟨a.k, a.n, a.t⟩ = tx []) = True := eq_true kd
      rw [decide_eq_true kd, Bool.not_true, Bool.false_and, cond_false, if_pos kd]
      rw [loop_eq]; simp (contextual := true) (implicitDefEqProofs := false) (decide := true) (maxSteps := 1000000) only [go_sem, h2, h5, h6, deed, kd', h8]
    · have kd' : (dB ⟨a.k, a.n, a.t⟩ = tx []) = False := eq_false kd
      have ih := ih (i + 1) (acc ++ dB a ++ tx [10]) h3 (by rw [ByteArray.size_append, ByteArray.size_append, tx_size]; simp only [List.length_cons, List.length_nil]; omega)
      rw [decide_eq_false kd, Bool.not_false, Bool.true_and, if_neg kd, ← ih]
      have e : dB a = dB ⟨a.k, a.n, a.t⟩ := rfl
      rw [e] at hz hz2 ⊢
      rw [ByteArray.append_assoc]
      rw [loop_eq]; simp (contextual := true) (implicitDefEqProofs := false) (decide := true) (maxSteps := 1000000) only [go_sem, h2, h5, h6, deed, kd', h8, hz, hz2]
theorem e17 (L : List Deed) (hL : L.length ≤ 100000) (hS : ∀ a ∈ L, a.t.size ≤ 100000) : CF E 17 [.p (.ls 3 (L.map deed))] [] = some ⟨.p (.str (jTo L)), [], []⟩ := by
  have h := lp17 L hL hS _ rfl L 0 (tx []) rfl (by rw [tx_size]; simp)
  unfold jTo
  simp (contextual := true) (implicitDefEqProofs := false) (decide := true) (maxSteps := 1000000) only [x17, go_sem] at h
  rw [q17]
  cases hj : jN L <;> rw [hj] at h <;> simp (contextual := true) (implicitDefEqProofs := false) (decide := true) (maxSteps := 1000000) only [x17, go_sem, h]
end Go.Proofs.YtjlebmnlphjjoaaGreatDoor.Fx
