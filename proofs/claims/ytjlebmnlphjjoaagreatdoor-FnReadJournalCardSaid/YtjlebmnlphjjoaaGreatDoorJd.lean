import Derived.Test.YtjlebmnlphjjoaaGreatDoorJc
set_option linter.unusedVariables false
set_option linter.unusedSimpArgs false
/- Deeds are read, by both; no condition. -/
open Go Go.Proofs.YtjlebmnlphjjoaaGreatDoor.Abs
namespace Go.Proofs.YtjlebmnlphjjoaaGreatDoor.Fx
set_option maxRecDepth 100000
set_option maxHeartbeats 8000000
set_option linter.unusedSimpArgs false
set_option linter.unusedVariables false
theorem e104 (s : ByteArray) (c : Nat) : CF E 104 [.p (.str s), .p (.str (tx [c]))] [] = some ⟨.p (.int .i64 (Lib.indexByte s.data.toList (UInt8.ofNat c))), [], []⟩ := by
  rw [ext_eq rfl]
  have h : E.ext = extT := rfl
  have h1 := tx_list [c]
  rw [h]
  unfold extT
  first | rw [if_neg (by decide), if_pos rfl] | rw [if_pos rfl]
  simp only [idxX, h1, List.map_cons, List.map_nil]
theorem cut_e (s : ByteArray) (hs : s.size ≤ room) (c : Nat) : CF E 80 [.p (.str s), .p (.str (tx [c]))] [] = some ⟨.p (.tup [.str (cutAt s (UInt8.ofNat c)).1, .str (cutAt s (UInt8.ofNat c)).2.1, .bool (cutAt s (UInt8.ofNat c)).2.2]), [], []⟩ := by
  have hI := e104 s c
  unfold room at hs
  rw [q80]
  rcases idx_cases (UInt8.ofNat c) s.data.toList with ⟨h1, _⟩ | ⟨l1, l2, h0, _, h1⟩
  · rw [cut_none h1]
    rw [h1] at hI
    simp (contextual := true) (implicitDefEqProofs := false) (decide := true) (maxSteps := 1000000) only [x80, go_sem, hI]
  · rw [cut_some h1]
    rw [h1] at hI
    have hl : l1.length + 1 ≤ s.size := by rw [← len_list, h0]; simp
    have h6 := w64s (n := l1.length) (by omega)
    have h7 : (((l1.length + 1 : Nat) : Int) ≤ s.size) := by omega
    have h11 : (0 : Int) ≤ ((l1.length + 1 : Nat) : Int) := by omega
    have h8 : ((l1.length : Int) ≤ s.size) := by omega
    have h9 : (0 : Int) ≤ (l1.length : Int) + 1 := by omega
    have h10 : ((l1.length : Int) + 1).toNat = l1.length + 1 := by omega
    simp (contextual := true) (implicitDefEqProofs := false) (decide := true) (maxSteps := 1000000) only [x80, go_sem, hI, h6, h7, h8, h9, h10, h11]
theorem e43 (s : ByteArray) (hs : s.size ≤ room) (c : Nat) : CF E 43 [.p (.str s), .p (.str (tx [c]))] [] = some ⟨.p (.tup [.str (cutAt s (UInt8.ofNat c)).1, .str (cutAt s (UInt8.ofNat c)).2.1, .bool (cutAt s (UInt8.ofNat c)).2.2]), [], []⟩ := by
  have h := cut_e s hs c
  rw [q43]; simp (contextual := true) (implicitDefEqProofs := false) (decide := true) (maxSteps := 1000000) only [x43, go_sem, h]
/-- What is read, as the program hands it out. -/
def rdP (s : ByteArray) : PV := .tup [.agg [.int .i64 (rdo s).k, .int .i64 (rdo s).n, .str (rdo s).t], .bool (rd s).isSome]
theorem rdo_some {s : ByteArray} (h : s ≠ tx [] ∧ dB (cand s) = s) : rdP s = .tup [.agg [.int .i64 (cand s).k, .int .i64 (cand s).n, .str (cand s).t], .bool true] := by
  have : rd s = some (cand s) := by unfold rd; rw [if_pos h]
  simp [rdP, rdo, this]
theorem rdo_none {s : ByteArray} (h : ¬ (s ≠ tx [] ∧ dB (cand s) = s)) : rdP s = .tup [.agg [.int .i64 0, .int .i64 0, .str (tx [])], .bool false] := by
  have : rd s = none := by unfold rd; rw [if_neg h]
  simp [rdP, rdo, this]
theorem e44 (s : ByteArray) (hs : s.size ≤ room) : CF E 44 [.p (.str s)] [] = some ⟨.p (rdP s), [], []⟩ := by
  have hz := cut_size s 32
  have hC := e43 s hs 32
  rw [show UInt8.ofNat 32 = (32 : UInt8) from rfl] at hC
  have hcd : cand s = cand s := rfl
  conv at hcd => rhs; unfold cand
  generalize hc : cutAt s 32 = c at hz hC hcd
  obtain ⟨c1, c2, c3⟩ := c
  simp only at hz hC hcd
  have h2 : c2.size ≤ room := by omega
  have ht0 : (tx []).size ≤ room := by rw [tx_size]; exact Nat.zero_le _
  have hne : ¬ ((tx [115, 97, 121]) = (tx [100, 114, 111, 112])) := fun e => by
    have := congrArg ByteArray.size e
    rw [tx_size, tx_size] at this
    exact absurd this (by decide)
  have hne2 : ¬ ((tx [100, 114, 111, 112]) = (tx [115, 97, 121])) := fun e => hne e.symm
  rw [q44]
  by_cases k1 : c1 = (tx [115, 97, 121])
  · subst k1
    rw [if_pos rfl] at hcd
    by_cases k0 : s = tx []
    · rw [rdo_none (fun e => e.1 k0)]
      have k0 : (s = tx []) = True := eq_true k0
      simp (contextual := true) (implicitDefEqProofs := false) (decide := true) (maxSteps := 1000000) only [x44, go_sem, hC, h2, k0]
    · by_cases kd : dB ⟨0, 0, c2⟩ = s
      · rw [rdo_some ⟨k0, by rw [hcd]; exact kd⟩, hcd]
        have kd := eq_true kd
        simp (contextual := true) (implicitDefEqProofs := false) (decide := true) (maxSteps := 1000000) only [x44, go_sem, hC, h2, k0, kd]
      · rw [rdo_none (fun e => kd (by have := e.2; rw [hcd] at this; exact this))]
        simp (contextual := true) (implicitDefEqProofs := false) (decide := true) (maxSteps := 1000000) only [x44, go_sem, hC, h2, k0, kd]
  · rw [if_neg k1] at hcd
    by_cases k2 : c1 = (tx [100, 114, 111, 112]) ∧ c2.size = 1
    · obtain ⟨rfl, k3⟩ := k2
      rw [if_pos ⟨rfl, k3⟩] at hcd
      have k4 : ((c2.size : Int) = 1) := by omega
      have hg := bd_get c2 0 (by omega)
      rw [hg, Option.getD_some] at hcd
      have hlt := c2[0].toNat_lt
      have hw : IntKind.i64.wrap (c2[0].toNat : Int) = (c2[0].toNat : Int) := by rw [IntKind.wrap_i64]; omega
      have hw2 : IntKind.i64.wrap ((c2[0].toNat : Int) - 48) = (c2[0].toNat : Int) - 48 := by rw [IntKind.wrap_i64]; omega
      by_cases k0 : s = tx []
      · rw [rdo_none (fun e => e.1 k0)]
        have k0 : (s = tx []) = True := eq_true k0
        simp (contextual := true) (implicitDefEqProofs := false) (decide := true) (maxSteps := 1000000) only [x44, go_sem, hC, h2, k0, k3, k4, hg, hne2, hw, hw2]
      · by_cases kd : dB ⟨1, (c2[0].toNat : Int) - 48, tx []⟩ = s
        · rw [rdo_some ⟨k0, by rw [hcd]; exact kd⟩, hcd]
          have kd := eq_true kd
          simp (contextual := true) (implicitDefEqProofs := false) (decide := true) (maxSteps := 1000000) only [x44, go_sem, hC, h2, k0, k3, k4, hg, hne2, hw, hw2, kd, ht0]
        · rw [rdo_none (fun e => kd (by have := e.2; rw [hcd] at this; exact this))]
          simp (contextual := true) (implicitDefEqProofs := false) (decide := true) (maxSteps := 1000000) only [x44, go_sem, hC, h2, k0, k3, k4, hg, hne2, hw, hw2, kd, ht0]
    · rw [if_neg k2] at hcd
      have k4 : ∀ h : c1 = (tx [100, 114, 111, 112]), ¬ ((c2.size : Int) = 1) := fun h e => k2 ⟨h, by omega⟩
      by_cases kb : s = (tx [98, 97, 99, 107])
      · subst kb
        rw [if_pos rfl] at hcd
        have k0 : ¬ ((tx [98, 97, 99, 107]) = tx []) := fun e => by
          have := congrArg ByteArray.size e
          rw [tx_size, tx_size] at this
          exact absurd this (by decide)
        have kd : dB ⟨2, 0, tx []⟩ = (tx [98, 97, 99, 107]) := by unfold dB; simp
        rw [rdo_some ⟨k0, by rw [hcd]; exact kd⟩, hcd]
        have kd := eq_true kd
        by_cases kk : c1 = (tx [100, 114, 111, 112])
        · have := k4 kk; simp (contextual := true) (implicitDefEqProofs := false) (decide := true) (maxSteps := 1000000) only [x44, go_sem, hC, h2, k0, k1, kk, hne2, this, kd, ht0]
        · simp (contextual := true) (implicitDefEqProofs := false) (decide := true) (maxSteps := 1000000) only [x44, go_sem, hC, h2, k0, k1, kk, kd, ht0]
      · rw [if_neg kb] at hcd
        have kd : ∀ h : ¬ s = tx [], ¬ (dB ⟨0, 0, tx []⟩ = s) := fun h e => by
          have : dB ⟨0, 0, tx []⟩ = tx [] := by unfold dB; simp
          exact h (by rw [← e, this])
        rw [rdo_none (fun e => kd e.1 (by have := e.2; rw [hcd] at this; exact this))]
        by_cases k0 : s = tx []
        · have k0 : (s = tx []) = True := eq_true k0
          by_cases kk : c1 = (tx [100, 114, 111, 112])
          · have := k4 kk; simp (contextual := true) (implicitDefEqProofs := false) (decide := true) (maxSteps := 1000000) only [x44, go_sem, hC, h2, k0, k1, kk, hne2, this, kb, ht0]
          · simp (contextual := true) (implicitDefEqProofs := false) (decide := true) (maxSteps := 1000000) only [x44, go_sem, hC, h2, k0, k1, kk, kb, ht0]
        · have kd := kd k0
          by_cases kk : c1 = (tx [100, 114, 111, 112])
          · have := k4 kk; simp (contextual := true) (implicitDefEqProofs := false) (decide := true) (maxSteps := 1000000) only [x44, go_sem, hC, h2, k0, k1, kk, hne2, this, kb, kd, ht0]
          · simp (contextual := true) (implicitDefEqProofs := false) (decide := true) (maxSteps := 1000000) only [x44, go_sem, hC, h2, k0, k1, kk, kb, kd, ht0]
end Go.Proofs.YtjlebmnlphjjoaaGreatDoor.Fx
