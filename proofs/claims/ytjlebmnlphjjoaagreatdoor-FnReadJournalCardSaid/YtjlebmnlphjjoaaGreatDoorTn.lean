import Derived.Test.YtjlebmnlphjjoaaGreatDoorTm
import Derived.Test.YtjlebmnlphjjoaaGreatDoorTk
set_option linter.unusedVariables false
set_option linter.unusedSimpArgs false
/- Deeds one after the other, drawn desks and deeds; no condition. -/
open Go Go.Proofs.YtjlebmnlphjjoaaGreatDoor.Abs
namespace Go.Proofs.YtjlebmnlphjjoaaGreatDoor.Fx
set_option maxRecDepth 100000
set_option maxHeartbeats 8000000
set_option linter.unusedSimpArgs false
set_option linter.unusedVariables false
@[go_sem] theorem e10053 (d : Desk) (hd : Sz d) : CF E 10053 [.p (.agg [.ls 3 (d.now.map say), .ls 1 (d.past.map row)])] [] = some ⟨.p (.agg [.ls 3 (d.now.map say), .ls 1 (d.past.map row)]), [], []⟩ := by
  obtain ⟨n, N⟩ := d
  obtain ⟨hn, hN, hR⟩ := hd
  cases N with
  | nil => rw [q10053]; simp (contextual := true) (implicitDefEqProofs := false) (decide := true) (maxSteps := 1000000) only [x10053, go_sem, hn, loop_eq]
  | cons a l =>
    have L := lp53 n (a :: l) hN hR _ rfl l [a] rfl (by simp)
    unfold cpS at L
    have h8 : a.length ≤ room := hR a (by simp)
    have h1 : 1 ≤ room := by unfold room; omega
    have h2 : ((0 : Int) < (l.length + 1 : Nat)) := by omega
    simp (contextual := true) (implicitDefEqProofs := false) (decide := true) (maxSteps := 1000000) only [x53, row, go_sem] at L
    rw [q10053]; simp (contextual := true) (implicitDefEqProofs := false) (decide := true) (maxSteps := 1000000) only [x10053, go_sem, hn, row, h8, h1, h2, L]
    rw [loop_eq]
    simp (contextual := true) (implicitDefEqProofs := false) (decide := true) (maxSteps := 1000000) only [x10053, go_sem, hn, row, h8, h1, h2, L]
def deed (a : Deed) : PV := .agg [.int .i64 a.k, .int .i64 a.n, .str a.t]
/-- A desk after deeds, and how many were done. -/
def rnD (d : Desk) (l : List Deed) : Desk := l.foldl (fun d a => (deskDo d a).getD d) d
def rnN (d : Desk) : List Deed → Nat
  | [] => 0
  | a :: l => (if (deskDo d a).isSome = true then 1 else 0) + rnN ((deskDo d a).getD d) l
theorem getD_ok {d : Desk} (a : Deed) (h : deskOk d = true) : deskOk ((deskDo d a).getD d) = true := by
  cases hd : deskDo d a with
  | none => exact h
  | some d' => exact (deskDo_ok h hd).1
theorem deskOk_sz {d : Desk} (h : deskOk d = true) : Sz d := by
  simp only [deskOk, Bool.and_eq_true, decide_eq_true_eq] at h
  exact ⟨room_ge (by have := rowOk_lt h.1.1; omega), room_ge (by omega), fun r hr => room_ge (by have := rowOk_lt (List.all_eq_true.1 h.2 r hr); omega)⟩
theorem rnN_le : ∀ (l : List Deed) (d : Desk), rnN d l ≤ l.length
  | [], d => Nat.le_refl _
  | a :: l, d => by
    have := rnN_le l ((deskDo d a).getD d)
    simp only [rnN, List.length_cons]
    split <;> omega
theorem rnD_ok : ∀ (l : List Deed) {d : Desk}, deskOk d = true → deskOk (rnD d l) = true
  | [], d, h => h
  | a :: l, d, h => rnD_ok l (getD_ok a h)
def rD (d : Desk) (L : List Deed) : Desk := if deskOk d = true ∧ L.length ≤ 40 then rnD d L else none0
def rN (d : Desk) (L : List Deed) : Nat := if deskOk d = true ∧ L.length ≤ 40 then rnN d L else 0
theorem lp16 (L : List Deed) (hL : L.length ≤ 1000) (b : AC) (hb : b = lb x16.1 0) : ∀ (l : List Deed) (i c : Nat) (d : Desk), L.drop i = l → c ≤ i → deskOk d = true →
   CL E [2, 4, 6, 22, 23, 24] [2, 4, 6] b ⟨mkT [(2, .mp 2 0 0 0), (4, .mp 4 0 0 0), (6, .p (.int .i64 c)), (22, .p (.ls 3 (L.map deed))), (23, .p (.int .i64 L.length)), (24, .p (.int .i64 i))], mkS [(2, [.p (.agg [.ls 3 (d.now.map say), .ls 1 (d.past.map row)])]), (4, [.p (.agg [.nls, .nls])])]⟩ =
    some (.ex 0, ⟨mkT [(2, .mp 2 0 0 0), (4, .mp 4 0 0 0), (6, .p (.int .i64 (c + rnN d l : Nat)))], mkS [(2, [.p (.agg [.ls 3 ((rnD d l).now.map say), .ls 1 ((rnD d l).past.map row)])]), (4, [.p (.agg [.nls, .nls])])]⟩) := by
  simp only [x16, go_sem] at hb; subst hb
  intro l; induction l with
  | nil =>
    intro i c d hi hc hd; have h1 := dropn hi
    have h2 : ¬ ((i : Int) < L.length) := by omega
    rw [loop_eq]; simp (contextual := true) (implicitDefEqProofs := false) (decide := true) (maxSteps := 1000000) only [go_sem, h2, rnD, rnN, List.foldl]
  | cons a l ih =>
    intro i c d hi hc hd; obtain ⟨h1, h2, h3, h4⟩ := dropc hi
    have h5 : ((i : Int) < L.length) := by omega
    have h6 := w64s (n := i) (by omega)
    have h7 := w64s (n := c) (by omega)
    have e := e54 d a hd
    have ih1 := ih (i + 1) c _ h3 (by omega) (getD_ok a hd)
    have ih2 := ih (i + 1) (c + 1) _ h3 (by omega) (getD_ok a hd)
    cases ho : deskDo d a with
    | none =>
      rw [ho] at e ih1
      simp only [Option.getD_none, Option.isSome_none] at e ih1
      rw [loop_eq]; simp (contextual := true) (implicitDefEqProofs := false) (decide := true) (maxSteps := 1000000) only [go_sem, h2, h5, h6, deed, e]
      rw [ih1]
      simp only [rnD, rnN, List.foldl_cons, ho, Option.getD_none, Option.isSome_none, Bool.false_eq_true, if_false, Nat.zero_add]
    | some d' =>
      rw [ho] at e ih2
      simp only [Option.getD_some, Option.isSome_some] at e ih2
      rw [loop_eq]; simp (contextual := true) (implicitDefEqProofs := false) (decide := true) (maxSteps := 1000000) only [go_sem, h2, h5, h6, h7, deed, e]
      rw [ih2]
      simp only [rnD, rnN, List.foldl_cons, ho, Option.getD_some, Option.isSome_some, if_true, Nat.add_assoc]
@[go_sem] theorem e16 (d : Desk) (L : List Deed) (hd : Sz d) : CF E 16 [.p (.agg [.ls 3 (d.now.map say), .ls 1 (d.past.map row)]), .p (.ls 3 (L.map deed))] [] =
    some ⟨.p (.tup [.agg [.ls 3 ((rD d L).now.map say), .ls 1 ((rD d L).past.map row)], .int .i64 (rN d L : Nat)]), [], []⟩ := by
  have ev := e50 d hd
  cases hv : deskOk d with
  | false =>
    rw [hv] at ev
    have c : ¬ (deskOk d = true ∧ L.length ≤ 40) := by simp [hv]
    simp only [rD, rN, if_neg c, none0]
    rw [q16]; simp (contextual := true) (implicitDefEqProofs := false) (decide := true) (maxSteps := 1000000) only [x16, go_sem, hd, ev]
  | true =>
    rw [hv] at ev
    by_cases hl : L.length ≤ 40
    · have c : deskOk d = true ∧ L.length ≤ 40 := ⟨hv, hl⟩
      simp only [rD, rN, if_pos c]
      have hl' : ¬ ((L.length : Int) > 40) := by omega
      have P := lp16 L (by omega) _ rfl L 0 0 d rfl (by omega) hv
      simp (contextual := true) (implicitDefEqProofs := false) (decide := true) (maxSteps := 1000000) only [x16, go_sem] at P
      rw [q16]; simp (contextual := true) (implicitDefEqProofs := false) (decide := true) (maxSteps := 1000000) only [x16, go_sem, hd, ev, hl', P]
    · have c : ¬ (deskOk d = true ∧ L.length ≤ 40) := fun h => hl h.2
      simp only [rD, rN, if_neg c, none0]
      have hl' : ((L.length : Int) > 40) := by omega
      rw [q16]; simp (contextual := true) (implicitDefEqProofs := false) (decide := true) (maxSteps := 1000000) only [x16, go_sem, hd, ev, hl']
end Go.Proofs.YtjlebmnlphjjoaaGreatDoor.Fx
