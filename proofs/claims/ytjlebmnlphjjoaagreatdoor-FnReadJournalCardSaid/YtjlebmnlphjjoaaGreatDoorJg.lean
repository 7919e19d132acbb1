import Derived.Test.YtjlebmnlphjjoaaGreatDoorJf
set_option linter.unusedVariables false
set_option linter.unusedSimpArgs false
/- Journals are read, by both; no condition. -/
open Go Go.Proofs.YtjlebmnlphjjoaaGreatDoor.Abs
namespace Go.Proofs.YtjlebmnlphjjoaaGreatDoor.Fx
set_option maxRecDepth 100000
set_option maxHeartbeats 8000000
set_option linter.unusedSimpArgs false
set_option linter.unusedVariables false
/-- The deeds of the lines with which a text begins, and how many bytes these have. -/
def rjS : Nat → ByteArray → List Deed × Nat
  | 0, _ => ([], 0)
  | n + 1, s => if (cutAt s 10).2.2 = true then match rd (cutAt s 10).1 with
      | some a => (a :: (rjS n (cutAt s 10).2.1).1, (cutAt s 10).1.size + 1 + (rjS n (cutAt s 10).2.1).2)
      | none => ([], 0)
    else ([], 0)
theorem cut_rest (s : ByteArray) (a : Nat) (ha : a ≤ s.size) (h : (cutAt (s.extract a s.size) 10).2.2 = true) :
    a + (cutAt (s.extract a s.size) 10).1.size + 1 ≤ s.size ∧ (cutAt (s.extract a s.size) 10).2.1 = s.extract (a + (cutAt (s.extract a s.size) 10).1.size + 1) s.size := by
  have hz : (s.extract a s.size).size = s.size - a := by rw [ByteArray.size_extract]; omega
  rcases idx_cases 10 (s.extract a s.size).data.toList with ⟨h1, _⟩ | ⟨l1, l2, h0, _, h1⟩
  · rw [cut_none h1] at h; cases h
  · rw [cut_some h1]
    have hl : l1.length + 1 ≤ s.size - a := by rw [← hz, ← len_list, h0]; simp
    have h3 : ((s.extract a s.size).extract 0 l1.length).size = l1.length := by rw [ByteArray.size_extract, hz]; omega
    refine ⟨by show a + ((s.extract a s.size).extract 0 l1.length).size + 1 ≤ _; omega, ?_⟩
    show (s.extract a s.size).extract (l1.length + 1) (s.extract a s.size).size = s.extract (a + ((s.extract a s.size).extract 0 l1.length).size + 1) s.size
    rw [h3, hz]
    refine ba_ext ?_
    rw [ex_list, ex_list, ex_list, List.take_of_length_le (l := s.data.toList) (by rw [len_list]; omega), List.take_of_length_le (by rw [List.length_drop, len_list]; omega), List.drop_drop]
    congr 1
theorem lp9 (s : ByteArray) (hs : s.size ≤ 100000) (b : AC) (hb : b = lb x9.1 0) : ∀ (n a : Nat) (X : List Deed), a ≤ s.size → s.size - a < n → X.length ≤ a →
   CL E [0, 4, 5] [2, 3] b ⟨mkT [(0, .p (.str s)), (4, .ms 3004 0 0 X.length 3), (5, .p (.int .i64 a))], mkS [(3004, (X.map deed).map .p)]⟩ =
    some (.ret, ⟨mkT [(2, .ms 3002 0 0 (X ++ (rjS n (s.extract a s.size)).1).length 3), (3, .p (.int .i64 (a + (rjS n (s.extract a s.size)).2 : Nat)))], mkS [(3002, ((X ++ (rjS n (s.extract a s.size)).1).map deed).map .p)]⟩) := by
  simp only [x9, go_sem] at hb; subst hb
  intro n; induction n with
  | zero => intro a X h1 h2 h3; omega
  | succ n ih =>
    intro a X ha hn hX
    have hz : (s.extract a s.size).size = s.size - a := by rw [ByteArray.size_extract]; omega
    have hR : (s.extract a s.size).size ≤ room := by unfold room; omega
    have hC := e43 (s.extract a s.size) hR 10
    rw [show UInt8.ofNat 10 = (10 : UInt8) from rfl] at hC
    have hcr := cut_rest s a ha
    have l1 : (0 : Int) ≤ (a : Int) := by omega
    have l2 : (a : Int) ≤ s.size := by omega
    unfold rjS
    generalize hc : cutAt (s.extract a s.size) 10 = c at hC hcr
    obtain ⟨c1, c2, c3⟩ := c
    simp only at hC hcr
    cases c3 with
    | false =>
      have hc1 : c1 = s.extract a s.size := by
        rcases idx_cases 10 (s.extract a s.size).data.toList with ⟨h1, _⟩ | ⟨l1, l2, h0, _, h1⟩
        · rw [cut_none h1] at hc; exact (congrArg Prod.fst hc).symm
        · rw [cut_some h1] at hc; cases hc
      have hrd := e44 c1 (by rw [hc1]; exact hR)
      unfold rdP at hrd
      rw [if_neg (by simp), List.append_nil, Nat.add_zero]
      rw [loop_eq]; simp (contextual := true) (implicitDefEqProofs := false) (decide := true) (maxSteps := 1000000) only [go_sem, l1, l2, hC, hrd]
    | true =>
      obtain ⟨hc2, hc3⟩ := hcr rfl
      have hrd := e44 c1 (by unfold room; omega)
      rw [if_pos rfl]
      cases hr : rd c1 with
      | none =>
        unfold rdP rdo at hrd
        rw [hr] at hrd
        simp only [Option.getD_none, Option.isSome_none] at hrd
        simp only [List.append_nil, Nat.add_zero]
        rw [loop_eq]; simp (contextual := true) (implicitDefEqProofs := false) (decide := true) (maxSteps := 1000000) only [go_sem, l1, l2, hC, hrd]
      | some d =>
        unfold rdP rdo at hrd
        rw [hr] at hrd
        simp only [Option.getD_some, Option.isSome_some] at hrd
        have ih := ih (a + c1.size + 1) (X ++ [d]) (by omega) (by omega) (by simp; omega)
        have g1 : X.length + 1 ≤ room := by unfold room; omega
        have w1 := w64s (n := c1.size) (by omega)
        have w2 : IntKind.wrap .i64 ((a : Int) + ((c1.size + 1 : Nat) : Int)) = ((a + c1.size + 1 : Nat) : Int) := by rw [w64] <;> omega
        rw [← hc3] at ih
        have e1 : X ++ d :: (rjS n c2).1 = X ++ [d] ++ (rjS n c2).1 := by simp
        have e2 : a + (c1.size + 1 + (rjS n c2).2) = a + c1.size + 1 + (rjS n c2).2 := by omega
        simp only [e1, e2]
        generalize rjS n c2 = r at *
        simp (contextual := true) (implicitDefEqProofs := false) (decide := true) (maxSteps := 1000000) only [deed, go_sem] at ih
        rw [loop_eq]; simp (contextual := true) (implicitDefEqProofs := false) (decide := true) (maxSteps := 1000000) only [go_sem, l1, l2, hC, hrd, apK_grow, g1, w1, w2, deed, ih]
theorem ex_cons (s : ByteArray) (a k : Nat) (ha : a ≤ k) (hk : k < s.size) : (s.extract a s.size).data.toList = (s.extract a k).data.toList ++ s[k] :: (s.extract (k + 1) s.size).data.toList := by
  rw [ex_list, ex_list, ex_list, List.take_of_length_le (by rw [len_list]; omega)]
  have hk' : k < s.data.toList.length := by rw [len_list]; exact hk
  have e1 : s.data.toList = s.data.toList.take k ++ s[k] :: s.data.toList.drop (k + 1) := by
    have := List.drop_eq_getElem_cons hk'
    rw [show s[k] = s.data.toList[k] from rfl, ← this, List.take_append_drop]
  have e2 : (s.data.toList.take k).length = k := by rw [List.length_take]; omega
  conv => lhs; rw [e1]
  rw [List.drop_append_of_le_length (by omega)]
/-- No newline from a up to k. -/
def NoNl (s : ByteArray) (a k : Nat) : Prop := ∀ x ∈ (s.extract a k).data.toList, x ≠ 10
theorem NoNl.step {s : ByteArray} {a k : Nat} (h : NoNl s a k) (ha : a ≤ k) (hk : k < s.size) (hx : s[k] ≠ 10) : NoNl s a (k + 1) := by
  intro x hm
  have e : (s.extract a (k + 1)).data.toList = (s.extract a k).data.toList ++ [s[k]] := by
    rw [ex_list, ex_list, List.take_add_one, List.drop_append_of_le_length (by rw [List.length_take, len_list]; omega)]
    congr 1
    rw [List.getElem?_eq_getElem (by rw [len_list]; exact hk)]; rfl
  rw [e] at hm
  rcases List.mem_append.1 hm with hm | hm
  · exact h x hm
  · rw [List.mem_singleton.1 hm]; exact hx
theorem NoNl.self (s : ByteArray) (a : Nat) : NoNl s a a := by
  intro x hm
  rw [ex_list, List.drop_of_length_le (by rw [List.length_take]; omega)] at hm
  cases hm
theorem cut_at {s : ByteArray} {a k : Nat} (h : NoNl s a k) (ha : a ≤ k) (hk : k < s.size) (hx : s[k] = 10) : cutAt (s.extract a s.size) 10 = (s.extract a k, s.extract (k + 1) s.size, true) := by
  have e : s.extract a s.size = (s.extract a k ++ ⟨#[10]⟩) ++ s.extract (k + 1) s.size := ba_ext (by rw [ex_cons s a k ha hk, hx, app_list, app_list]; simp)
  rw [e]; exact cut_line _ _ _ h
theorem cut_no {s : ByteArray} {a : Nat} (h : NoNl s a s.size) : (cutAt (s.extract a s.size) 10).2.2 = false := by
  rcases idx_cases 10 (s.extract a s.size).data.toList with ⟨h1, _⟩ | ⟨l1, l2, h0, _, h1⟩
  · rw [cut_none h1]
  · exact absurd rfl (h 10 (by rw [h0]; simp))
theorem lp10 (s : ByteArray) (hs : s.size ≤ 100000) (b : AC) (hb : b = lb x10.1 0) : ∀ (m k a n : Nat) (X : List Deed), k + m = s.size → a ≤ k → s.size - a < n → X.length ≤ a → NoNl s a k →
   CL E [0, 4, 5, 6] [2, 3, 4, 5] b ⟨mkT [(0, .p (.str s)), (4, .ms 3004 0 0 X.length 3), (5, .p (.int .i64 a)), (6, .p (.int .i64 k))], mkS [(3004, (X.map deed).map .p)]⟩ =
    some (.ex 0, ⟨mkT [(2, .un), (3, .un), (4, .ms 3004 0 0 (X ++ (rjS n (s.extract a s.size)).1).length 3), (5, .p (.int .i64 (a + (rjS n (s.extract a s.size)).2 : Nat)))], mkS [(3004, ((X ++ (rjS n (s.extract a s.size)).1).map deed).map .p)]⟩) ∨
   CL E [0, 4, 5, 6] [2, 3, 4, 5] b ⟨mkT [(0, .p (.str s)), (4, .ms 3004 0 0 X.length 3), (5, .p (.int .i64 a)), (6, .p (.int .i64 k))], mkS [(3004, (X.map deed).map .p)]⟩ =
    some (.ret, ⟨mkT [(2, .ms 3002 0 0 (X ++ (rjS n (s.extract a s.size)).1).length 3), (3, .p (.int .i64 (a + (rjS n (s.extract a s.size)).2 : Nat))), (4, .ms 3002 0 0 (X ++ (rjS n (s.extract a s.size)).1).length 3), (5, .p (.int .i64 (a + (rjS n (s.extract a s.size)).2 : Nat)))], mkS [(3002, ((X ++ (rjS n (s.extract a s.size)).1).map deed).map .p)]⟩) := by
  simp only [x10, go_sem] at hb; subst hb
  intro m; induction m with
  | zero =>
    intro k a n X hk ha hn hX hN
    obtain rfl : k = s.size := by omega
    left
    have h2 : ¬ ((s.size : Int) < s.size) := by omega
    have e : rjS n (s.extract a s.size) = ([], 0) := by
      cases n with
      | zero => rfl
      | succ n => unfold rjS; rw [cut_no hN]; rfl
    rw [e, List.append_nil, Nat.add_zero]
    rw [loop_eq]; simp (contextual := true) (implicitDefEqProofs := false) (decide := true) (maxSteps := 1000000) only [go_sem, h2]
  | succ m ih =>
    intro k a n X hk ha hn hX hN
    have hk1 : k < s.size := by omega
    have h5 : ((k : Int) < s.size) := by omega
    have h6 := w64s (n := k) (by omega)
    have hg := bd_get s k hk1
    by_cases hx : s[k] = 10
    · have hxi : (((s[k].toNat : Nat) : Int) = 10) := by rw [hx]; rfl
      have hc := cut_at hN ha hk1 hx
      have l1 : (0 : Int) ≤ (a : Int) := by omega
      have l2 : (a : Int) ≤ (k : Int) := by omega
      have l3 : (k : Int) ≤ s.size := by omega
      have hz : (s.extract a k).size = k - a := by rw [ByteArray.size_extract]; omega
      have hrd := e45 (s.extract a k) (by unfold room; omega)
      match n, hn with
      | n + 1, hn =>
      unfold rjS
      rw [hc]
      simp only [if_true]
      cases hr : rd (s.extract a k) with
      | none =>
        unfold rdP rdo at hrd
        rw [hr] at hrd
        simp only [Option.getD_none, Option.isSome_none] at hrd
        right
        simp only [List.append_nil, Nat.add_zero]
        rw [loop_eq]; simp (contextual := true) (implicitDefEqProofs := false) (decide := true) (maxSteps := 1000000) only [go_sem, h5, hg, hxi, l1, l2, l3, hrd]
      | some d =>
        unfold rdP rdo at hrd
        rw [hr] at hrd
        simp only [Option.getD_some, Option.isSome_some] at hrd
        have ih := ih (k + 1) (k + 1) n (X ++ [d]) (by omega) (by omega) (by omega) (by simp; omega) (NoNl.self s _)
        have g1 : X.length + 1 ≤ room := by unfold room; omega
        have e1 : X ++ d :: (rjS n (s.extract (k + 1) s.size)).1 = X ++ [d] ++ (rjS n (s.extract (k + 1) s.size)).1 := by simp
        have e2 : a + ((s.extract a k).size + 1 + (rjS n (s.extract (k + 1) s.size)).2) = k + 1 + (rjS n (s.extract (k + 1) s.size)).2 := by omega
        simp only [e1, e2]
        generalize rjS n (s.extract (k + 1) s.size) = r at *
        refine ih.imp (fun ih => ?_) (fun ih => ?_)
        · simp (contextual := true) (implicitDefEqProofs := false) (decide := true) (maxSteps := 1000000) only [deed, go_sem] at ih
          rw [loop_eq]; simp (contextual := true) (implicitDefEqProofs := false) (decide := true) (maxSteps := 1000000) only [go_sem, h5, h6, hg, hxi, l1, l2, l3, hrd, apK_grow, g1, deed, ih]
        · simp (contextual := true) (implicitDefEqProofs := false) (decide := true) (maxSteps := 1000000) only [deed, go_sem] at ih
          rw [loop_eq]; simp (contextual := true) (implicitDefEqProofs := false) (decide := true) (maxSteps := 1000000) only [go_sem, h5, h6, hg, hxi, l1, l2, l3, hrd, apK_grow, g1, deed, ih]
    · have hxi : ¬ (((s[k].toNat : Nat) : Int) = 10) := fun e => hx (UInt8.toNat_inj.1 (by show s[k].toNat = 10; omega))
      have ih := ih (k + 1) a n X (by omega) (by omega) hn hX (hN.step ha hk1 hx)
      generalize rjS n (s.extract a s.size) = r at *
      refine ih.imp (fun ih => ?_) (fun ih => ?_)
      · rw [loop_eq]; simp (contextual := true) (implicitDefEqProofs := false) (decide := true) (maxSteps := 1000000) only [go_sem, h5, h6, hg, hxi, ih]
      · rw [loop_eq]; simp (contextual := true) (implicitDefEqProofs := false) (decide := true) (maxSteps := 1000000) only [go_sem, h5, h6, hg, hxi, ih]
def rj (s : ByteArray) : List Deed × Nat := rjS (s.size + 1) s
theorem ex_self (s : ByteArray) : s.extract 0 s.size = s := ba_ext (by rw [ex_list, List.take_of_length_le (by rw [len_list]; exact Nat.le_refl _)]; rfl)
theorem e9 (s : ByteArray) (hs : s.size ≤ 100000) : CF E 9 [.p (.str s)] [] = some ⟨.p (.tup [.ls 3 ((rj s).1.map deed), .int .i64 (rj s).2]), [], []⟩ := by
  have L := lp9 s hs _ rfl (s.size + 1) 0 [] (by omega) (by omega) (by simp)
  rw [ex_self] at L
  unfold rj
  generalize rjS (s.size + 1) s = r at *
  rw [List.nil_append, Nat.zero_add] at L
  simp (contextual := true) (implicitDefEqProofs := false) (decide := true) (maxSteps := 1000000) only [x9, go_sem, List.map_nil, List.length_nil] at L
  rw [q9]; simp (contextual := true) (implicitDefEqProofs := false) (decide := true) (maxSteps := 1000000) only [x9, go_sem, L]
theorem e10 (s : ByteArray) (hs : s.size ≤ 100000) : CF E 10 [.p (.str s)] [] = some ⟨.p (.tup [.ls 3 ((rj s).1.map deed), .int .i64 (rj s).2]), [], []⟩ := by
  have L := lp10 s hs _ rfl s.size 0 0 (s.size + 1) [] (by omega) (by omega) (by omega) (by simp) (NoNl.self s 0)
  rw [ex_self] at L
  unfold rj
  generalize rjS (s.size + 1) s = r at *
  rw [List.nil_append, Nat.zero_add] at L
  rcases L with L | L
  · simp (contextual := true) (implicitDefEqProofs := false) (decide := true) (maxSteps := 1000000) only [x10, go_sem, List.map_nil, List.length_nil] at L
    rw [q10]; simp (contextual := true) (implicitDefEqProofs := false) (decide := true) (maxSteps := 1000000) only [x10, go_sem, L]
  · simp (contextual := true) (implicitDefEqProofs := false) (decide := true) (maxSteps := 1000000) only [x10, go_sem, List.map_nil, List.length_nil] at L
    rw [q10]; simp (contextual := true) (implicitDefEqProofs := false) (decide := true) (maxSteps := 1000000) only [x10, go_sem, L]
end Go.Proofs.YtjlebmnlphjjoaaGreatDoor.Fx
