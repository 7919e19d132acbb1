import Derived.Test.YtjlebmnlphjjoaaGreatDoorQb
set_option linter.unusedVariables false
set_option linter.unusedSimpArgs false
/- Texts of sentences are written and read; no condition. -/
open Go Go.Proofs.YtjlebmnlphjjoaaGreatDoor.Abs
namespace Go.Proofs.YtjlebmnlphjjoaaGreatDoor.Fx
set_option maxRecDepth 100000
set_option maxHeartbeats 4000000
set_option linter.unusedSimpArgs false
def tT (o : Int) : ByteArray := if o = 0 then (tx [97]) else if o = 1 then (tx [110, 111, 110, 45, 97]) else if o = 2 then (tx [98]) else (tx [110, 111, 110, 45, 98])
def wA (f : Int) : ByteArray := if f = 0 then (tx [97, 108, 108, 32]) else if f = 1 then (tx [115, 111, 109, 101, 32]) else if f = 2 then (tx [110, 111, 116, 32, 102, 101, 119, 101, 114, 32]) else if f = 3 then (tx [109, 111, 114, 101, 32]) else if f = 4 then (tx [109, 111, 115, 116, 32]) else (tx [97, 116, 32, 109, 111, 115, 116, 32, 104, 97, 108, 102, 32])
def wM (f : Int) : ByteArray := if f = 2 then (tx [32, 116, 104, 97, 110, 32]) else if f = 3 then (tx [32, 116, 104, 97, 110, 32]) else (tx [32, 97, 114, 101, 32])
def wT (s : Say) : ByteArray := wA s.f ++ tT s.o ++ wM s.f ++ tT s.t
theorem tT_size (o : Int) : (tT o).size ≤ 5 := by unfold tT; split <;> (try split) <;> (try split) <;> simp [tx_size]
theorem wA_size (o : Int) : (wA o).size ≤ 13 := by unfold wA; repeat' split
                                                   all_goals simp [tx_size]
theorem wM_size (o : Int) : (wM o).size ≤ 6 := by unfold wM; split <;> (try split) <;> simp [tx_size]
@[go_sem] theorem e140 (o : Int) (h0 : 0 ≤ o) (h3 : o ≤ 3) : CF E 140 [.p (.int .i64 o)] [] = some ⟨.p (.str (tT o)), [], []⟩ := by
  rw [q140]
  have : o = 0 ∨ o = 1 ∨ o = 2 ∨ o = 3 := by omega
  rcases this with rfl | rfl | rfl | rfl <;> simp (contextual := true) (implicitDefEqProofs := false) (decide := true) (maxSteps := 1000000) only [x140, go_sem, tT, tx_append]
@[go_sem] theorem e96 (o : Int) (h0 : 0 ≤ o) (h3 : o ≤ 3) : CF E 96 [.p (.int .i64 o)] [] = some ⟨.p (.str (tT o)), [], []⟩ := by
  rw [q96]
  have : o = 0 ∨ o = 1 ∨ o = 2 ∨ o = 3 := by omega
  rcases this with rfl | rfl | rfl | rfl <;> simp (contextual := true) (implicitDefEqProofs := false) (decide := true) (maxSteps := 1000000) only [x96, go_sem, tT, tx_append]
@[go_sem] theorem e110 (s : Say) (h : wOk s = true) : CF E 110 [.p (.agg [.int .i64 s.f, .int .i64 s.o, .int .i64 s.t])] [] = some ⟨.p (.str (wT s)), [], []⟩ := by
  obtain ⟨f, o, t⟩ := s
  simp only [wOk, decide_eq_true_eq] at h
  obtain ⟨h1, h2, h3, h4, h5, h6⟩ := h
  have k1 := tT_size o
  have k2 := tT_size t
  rw [q110]
  have : f = 0 ∨ f = 1 ∨ f = 2 ∨ f = 3 ∨ f = 4 ∨ f = 5 := by omega
  rcases this with rfl | rfl | rfl | rfl | rfl | rfl <;> simp (contextual := true) (implicitDefEqProofs := false) (decide := true) (maxSteps := 1000000) only [x110, go_sem, wT, wA, wM, h3, h4, h5, h6] <;> (repeat' split) <;> first | rfl | omega
def wTo (s : Say) : ByteArray := if wOk s then wT s else .empty
@[go_sem] theorem e63 (s : Say) : CF E 63 [.p (.agg [.int .i64 s.f, .int .i64 s.o, .int .i64 s.t])] [] = some ⟨.p (.str (wTo s)), [], []⟩ := by
  rw [q63]
  by_cases h : wOk s = true
  · have hh := h
    obtain ⟨f, o, t⟩ := s
    simp only [wOk, decide_eq_true_eq] at h
    obtain ⟨h1, h2, h3, h4, h5, h6⟩ := h
    have k1 := tT_size o
    have k2 := tT_size t
    have : f = 0 ∨ f = 1 ∨ f = 2 ∨ f = 3 ∨ f = 4 ∨ f = 5 := by omega
    have E := e83 ⟨f, o, t⟩
    rw [hh] at E
    rw [wTo, if_pos hh]
    rcases this with rfl | rfl | rfl | rfl | rfl | rfl <;> simp (contextual := true) (implicitDefEqProofs := false) (decide := true) (maxSteps := 1000000) only [x63, go_sem, wT, wA, wM, h3, h4, h5, h6, E] <;> (repeat' split) <;> first | rfl | omega
  · have hh : wOk s = false := by simpa using h
    have E := e83 s
    rw [hh] at E
    rw [wTo, if_neg h]
    simp (contextual := true) (implicitDefEqProofs := false) (decide := true) (maxSteps := 1000000) only [x63, go_sem, E, tx_nil]
def srch (x : ByteArray) (l : List Say) : Option Say := l.find? fun s => decide (wT s = x)
def c3 (f o : Nat) (l : List Nat) : List Say := l.map fun (j : Nat) => Say.mk f o j
def c2 (f : Nat) (l : List Nat) : List Say := l.flatMap fun o => c3 f o (List.range 4)
def c1 (l : List Nat) : List Say := l.flatMap fun f => c2 f (List.range 4)
def rW (x : ByteArray) : Option Say := srch x (c1 (List.range 6))
theorem lp290 (x : ByteArray) (b : AC) (hb : b = lb x90.1 2) (f o : Nat) (hf : f ≤ 5) (ho : o ≤ 3) : ∀ (l : List Nat) (j : Nat), (List.range 4).drop j = l →
   CL E [0, 2, 4, 5, 12, 15] [0, 2, 3, 4, 12] b ⟨mkT [(0, .p (.str x)), (2, .mp 2 0 0 0), (4, .p (.int .i64 f)), (5, .p (.int .i64 o)), (12, .p (.int .i64 o)), (15, .p (.int .i64 j))], mkS [(2, [.p (.agg [.int .i64 0, .int .i64 0, .int .i64 0])])]⟩ =
    match srch x (c3 f o l) with
    | some s => some (.ret, ⟨mkT [(0, .p (.str x)), (2, .mp 2 0 0 0), (3, .p (.bool true)), (4, .p (.int .i64 f)), (12, .p (.int .i64 o))], mkS [(2, [.p (.agg [.int .i64 s.f, .int .i64 s.o, .int .i64 s.t])])]⟩)
    | none => some (.ex 4, ⟨mkT [(0, .p (.str x)), (2, .mp 2 0 0 0), (3, .un), (4, .p (.int .i64 f)), (12, .p (.int .i64 o))], mkS [(2, [.p (.agg [.int .i64 0, .int .i64 0, .int .i64 0])])]⟩) := by
  simp only [x90, go_sem] at hb; subst hb
  intro l; induction l with
  | nil => 
    intro i hi; have h1 := dropn hi
    have h2 : ¬ ((i : Int) < 4) := by simp at h1; omega
    rw [loop_eq]; simp (contextual := true) (implicitDefEqProofs := false) (decide := true) (maxSteps := 1000000) only [go_sem, h2, srch, c3, List.find?]
  | cons a l ih =>
    intro i hi; obtain ⟨h1, h2, h3, h4⟩ := dropc hi
    have h0 : i < 4 := by simpa using h1
    obtain rfl : i = a := by rw [List.getElem?_range h0] at h2; simpa using h2
    have h5 : ((i : Int) < 4) := by omega
    have h6 := w64s (n := i) (by omega)
    have h7 : wOk ⟨f, o, i⟩ = true := by simp only [wOk, decide_eq_true_eq]; omega
    have e := e110 ⟨f, o, i⟩ h7
    rw [loop_eq]; simp (contextual := true) (implicitDefEqProofs := false) (decide := true) (maxSteps := 1000000) only [go_sem, h5, h6, e, ih _ h3]
    by_cases h8 : wT ⟨f, o, i⟩ = x <;> simp [srch, c3, h8]
theorem lp190 (x : ByteArray) (b : AC) (hb : b = lb x90.1 1) (f : Nat) (hf : f ≤ 5) : ∀ (l : List Nat) (j : Nat), (List.range 4).drop j = l →
   CL E [0, 2, 4, 12] [0, 2, 3, 4] b ⟨mkT [(0, .p (.str x)), (2, .mp 2 0 0 0), (4, .p (.int .i64 f)), (12, .p (.int .i64 j))], mkS [(2, [.p (.agg [.int .i64 0, .int .i64 0, .int .i64 0])])]⟩ =
    match srch x (c2 f l) with
    | some s => some (.ret, ⟨mkT [(0, .p (.str x)), (2, .mp 2 0 0 0), (3, .p (.bool true)), (4, .p (.int .i64 f))], mkS [(2, [.p (.agg [.int .i64 s.f, .int .i64 s.o, .int .i64 s.t])])]⟩)
    | none => some (.ex 2, ⟨mkT [(0, .p (.str x)), (2, .mp 2 0 0 0), (3, .un), (4, .p (.int .i64 f))], mkS [(2, [.p (.agg [.int .i64 0, .int .i64 0, .int .i64 0])])]⟩) := by
  have L := lp290 x _ rfl f
  simp only [x90, go_sem] at hb L; subst hb
  intro l; induction l with
  | nil => 
    intro i hi; have h1 := dropn hi
    have h2 : ¬ ((i : Int) < 4) := by simp at h1; omega
    rw [loop_eq]; simp (contextual := true) (implicitDefEqProofs := false) (decide := true) (maxSteps := 1000000) only [go_sem, h2, srch, c2, List.flatMap_nil, List.find?]
  | cons a l ih =>
    intro i hi; obtain ⟨h1, h2, h3, h4⟩ := dropc hi
    have h0 : i < 4 := by simpa using h1
    obtain rfl : i = a := by rw [List.getElem?_range h0] at h2; simpa using h2
    have h5 : ((i : Int) < 4) := by omega
    have h6 := w64s (n := i) (by omega)
    have L := L i hf (by omega) (List.range 4) 0 rfl
    have h7 : srch x (c2 f (i :: l)) = (srch x (c3 f i (List.range 4))).or (srch x (c2 f l)) := by simp [srch, c2, List.find?_append]
    cases h8 : srch x (c3 f i (List.range 4)) <;> rw [h8] at L h7 <;> rw [h7] <;> simp only [Option.or, Int.cast_ofNat_Int] at L ⊢ <;> rw [loop_eq] <;> simp (contextual := true) (implicitDefEqProofs := false) (decide := true) (maxSteps := 1000000) only [go_sem, h5, h6, L, ih _ h3]
theorem lp090 (x : ByteArray) (b : AC) (hb : b = lb x90.1 0) : ∀ (l : List Nat) (j : Nat), (List.range 6).drop j = l →
   CL E [0, 2, 4] [2, 3] b ⟨mkT [(0, .p (.str x)), (2, .mp 2 0 0 0), (4, .p (.int .i64 j))], mkS [(2, [.p (.agg [.int .i64 0, .int .i64 0, .int .i64 0])])]⟩ =
    match srch x (c1 l) with
    | some s => some (.ret, ⟨mkT [(2, .mp 2 0 0 0), (3, .p (.bool true))], mkS [(2, [.p (.agg [.int .i64 s.f, .int .i64 s.o, .int .i64 s.t])])]⟩)
    | none => some (.ex 0, ⟨mkT [(2, .mp 2 0 0 0), (3, .un)], mkS [(2, [.p (.agg [.int .i64 0, .int .i64 0, .int .i64 0])])]⟩) := by
  have L := lp190 x _ rfl
  simp only [x90, go_sem] at hb L; subst hb
  intro l; induction l with
  | nil => 
    intro i hi; have h1 := dropn hi
    have h2 : ¬ ((i : Int) ≤ 5) := by simp at h1; omega
    rw [loop_eq]; simp (contextual := true) (implicitDefEqProofs := false) (decide := true) (maxSteps := 1000000) only [go_sem, h2, srch, c1, List.flatMap_nil, List.find?]
  | cons a l ih =>
    intro i hi; obtain ⟨h1, h2, h3, h4⟩ := dropc hi
    have h0 : i < 6 := by simpa using h1
    obtain rfl : i = a := by rw [List.getElem?_range h0] at h2; simpa using h2
    have h5 : ((i : Int) ≤ 5) := by omega
    have h6 := w64s (n := i) (by omega)
    have L := L i (by omega) (List.range 4) 0 rfl
    have h7 : srch x (c1 (i :: l)) = (srch x (c2 i (List.range 4))).or (srch x (c1 l)) := by simp [srch, c1, List.find?_append]
    cases h8 : srch x (c2 i (List.range 4)) <;> rw [h8] at L h7 <;> rw [h7] <;> simp only [Option.or, Int.cast_ofNat_Int] at L ⊢ <;> rw [loop_eq] <;> simp (contextual := true) (implicitDefEqProofs := false) (decide := true) (maxSteps := 1000000) only [go_sem, h5, h6, L, ih _ h3]
@[go_sem] theorem e90 (x : ByteArray) : CF E 90 [.p (.str x)] [] = some ⟨.p (.tup [.agg [.int .i64 ((rW x).getD ⟨0, 0, 0⟩).f, .int .i64 ((rW x).getD ⟨0, 0, 0⟩).o, .int .i64 ((rW x).getD ⟨0, 0, 0⟩).t], .bool (rW x).isSome]), [], []⟩ := by
  have L := lp090 x _ rfl (List.range 6) 0 rfl
  have h : rW x = srch x (c1 (List.range 6)) := rfl
  rw [← h] at L
  simp only [x90, go_sem] at L
  rw [q90]
  cases h8 : rW x <;> rw [h8] at L <;> simp only [] at L <;> simp (contextual := true) (implicitDefEqProofs := false) (decide := true) (maxSteps := 1000000) only [x90, go_sem, L]
theorem lp264 (x : ByteArray) (b : AC) (hb : b = lb x64.1 2) (f o : Nat) (hf : f ≤ 5) (ho : o ≤ 3) : ∀ (l : List Nat) (j : Nat), (List.range 4).drop j = l →
   CL E [0, 2, 4, 5, 6] [0, 2, 3, 4, 5] b ⟨mkT [(0, .p (.str x)), (2, .mp 2 0 0 0), (4, .p (.int .i64 f)), (5, .p (.int .i64 o)), (6, .p (.int .i64 j))], mkS [(2, [.p (.agg [.int .i64 0, .int .i64 0, .int .i64 0])])]⟩ =
    match srch x (c3 f o l) with
    | some s => some (.ret, ⟨mkT [(0, .p (.str x)), (2, .mp 2 0 0 0), (3, .p (.bool true)), (4, .p (.int .i64 f)), (5, .p (.int .i64 o))], mkS [(2, [.p (.agg [.int .i64 s.f, .int .i64 s.o, .int .i64 s.t])])]⟩)
    | none => some (.ex 4, ⟨mkT [(0, .p (.str x)), (2, .mp 2 0 0 0), (3, .un), (4, .p (.int .i64 f)), (5, .p (.int .i64 o))], mkS [(2, [.p (.agg [.int .i64 0, .int .i64 0, .int .i64 0])])]⟩) := by
  simp only [x64, go_sem] at hb; subst hb
  intro l; induction l with
  | nil => 
    intro i hi; have h1 := dropn hi
    have h2 : ¬ ((i : Int) < 4) := by simp at h1; omega
    rw [loop_eq]; simp (contextual := true) (implicitDefEqProofs := false) (decide := true) (maxSteps := 1000000) only [go_sem, h2, srch, c3, List.find?]
  | cons a l ih =>
    intro i hi; obtain ⟨h1, h2, h3, h4⟩ := dropc hi
    have h0 : i < 4 := by simpa using h1
    obtain rfl : i = a := by rw [List.getElem?_range h0] at h2; simpa using h2
    have h5 : ((i : Int) < 4) := by omega
    have h6 := w64s (n := i) (by omega)
    have h7 : wOk ⟨f, o, i⟩ = true := by simp only [wOk, decide_eq_true_eq]; omega
    have e := e63 ⟨f, o, i⟩
    rw [wTo, if_pos h7] at e
    rw [loop_eq]; simp (contextual := true) (implicitDefEqProofs := false) (decide := true) (maxSteps := 1000000) only [go_sem, h5, h6, e, ih _ h3]
    by_cases h8 : wT ⟨f, o, i⟩ = x <;> simp [srch, c3, h8]
theorem lp164 (x : ByteArray) (b : AC) (hb : b = lb x64.1 1) (f : Nat) (hf : f ≤ 5) : ∀ (l : List Nat) (j : Nat), (List.range 4).drop j = l →
   CL E [0, 2, 4, 5] [0, 2, 3, 4] b ⟨mkT [(0, .p (.str x)), (2, .mp 2 0 0 0), (4, .p (.int .i64 f)), (5, .p (.int .i64 j))], mkS [(2, [.p (.agg [.int .i64 0, .int .i64 0, .int .i64 0])])]⟩ =
    match srch x (c2 f l) with
    | some s => some (.ret, ⟨mkT [(0, .p (.str x)), (2, .mp 2 0 0 0), (3, .p (.bool true)), (4, .p (.int .i64 f))], mkS [(2, [.p (.agg [.int .i64 s.f, .int .i64 s.o, .int .i64 s.t])])]⟩)
    | none => some (.ex 2, ⟨mkT [(0, .p (.str x)), (2, .mp 2 0 0 0), (3, .un), (4, .p (.int .i64 f))], mkS [(2, [.p (.agg [.int .i64 0, .int .i64 0, .int .i64 0])])]⟩) := by
  have L := lp264 x _ rfl f
  simp only [x64, go_sem] at hb L; subst hb
  intro l; induction l with
  | nil => 
    intro i hi; have h1 := dropn hi
    have h2 : ¬ ((i : Int) < 4) := by simp at h1; omega
    rw [loop_eq]; simp (contextual := true) (implicitDefEqProofs := false) (decide := true) (maxSteps := 1000000) only [go_sem, h2, srch, c2, List.flatMap_nil, List.find?]
  | cons a l ih =>
    intro i hi; obtain ⟨h1, h2, h3, h4⟩ := dropc hi
    have h0 : i < 4 := by simpa using h1
    obtain rfl : i = a := by rw [List.getElem?_range h0] at h2; simpa using h2
    have h5 : ((i : Int) < 4) := by omega
    have h6 := w64s (n := i) (by omega)
    have L := L i hf (by omega) (List.range 4) 0 rfl
    have h7 : srch x (c2 f (i :: l)) = (srch x (c3 f i (List.range 4))).or (srch x (c2 f l)) := by simp [srch, c2, List.find?_append]
    cases h8 : srch x (c3 f i (List.range 4)) <;> rw [h8] at L h7 <;> rw [h7] <;> simp only [Option.or, Int.cast_ofNat_Int] at L ⊢ <;> rw [loop_eq] <;> simp (contextual := true) (implicitDefEqProofs := false) (decide := true) (maxSteps := 1000000) only [go_sem, h5, h6, L, ih _ h3]
theorem lp064 (x : ByteArray) (b : AC) (hb : b = lb x64.1 0) : ∀ (l : List Nat) (j : Nat), (List.range 6).drop j = l →
   CL E [0, 2, 4] [2, 3] b ⟨mkT [(0, .p (.str x)), (2, .mp 2 0 0 0), (4, .p (.int .i64 j))], mkS [(2, [.p (.agg [.int .i64 0, .int .i64 0, .int .i64 0])])]⟩ =
    match srch x (c1 l) with
    | some s => some (.ret, ⟨mkT [(2, .mp 2 0 0 0), (3, .p (.bool true))], mkS [(2, [.p (.agg [.int .i64 s.f, .int .i64 s.o, .int .i64 s.t])])]⟩)
    | none => some (.ex 0, ⟨mkT [(2, .mp 2 0 0 0), (3, .un)], mkS [(2, [.p (.agg [.int .i64 0, .int .i64 0, .int .i64 0])])]⟩) := by
  have L := lp164 x _ rfl
  simp only [x64, go_sem] at hb L; subst hb
  intro l; induction l with
  | nil => 
    intro i hi; have h1 := dropn hi
    have h2 : ¬ ((i : Int) ≤ 5) := by simp at h1; omega
    rw [loop_eq]; simp (contextual := true) (implicitDefEqProofs := false) (decide := true) (maxSteps := 1000000) only [go_sem, h2, srch, c1, List.flatMap_nil, List.find?]
  | cons a l ih =>
    intro i hi; obtain ⟨h1, h2, h3, h4⟩ := dropc hi
    have h0 : i < 6 := by simpa using h1
    obtain rfl : i = a := by rw [List.getElem?_range h0] at h2; simpa using h2
    have h5 : ((i : Int) ≤ 5) := by omega
    have h6 := w64s (n := i) (by omega)
    have L := L i (by omega) (List.range 4) 0 rfl
    have h7 : srch x (c1 (i :: l)) = (srch x (c2 i (List.range 4))).or (srch x (c1 l)) := by simp [srch, c1, List.find?_append]
    cases h8 : srch x (c2 i (List.range 4)) <;> rw [h8] at L h7 <;> rw [h7] <;> simp only [Option.or, Int.cast_ofNat_Int] at L ⊢ <;> rw [loop_eq] <;> simp (contextual := true) (implicitDefEqProofs := false) (decide := true) (maxSteps := 1000000) only [go_sem, h5, h6, L, ih _ h3]
@[go_sem] theorem e64 (x : ByteArray) : CF E 64 [.p (.str x)] [] = some ⟨.p (.tup [.agg [.int .i64 ((rW x).getD ⟨0, 0, 0⟩).f, .int .i64 ((rW x).getD ⟨0, 0, 0⟩).o, .int .i64 ((rW x).getD ⟨0, 0, 0⟩).t], .bool (rW x).isSome]), [], []⟩ := by
  have L := lp064 x _ rfl (List.range 6) 0 rfl
  have h : rW x = srch x (c1 (List.range 6)) := rfl
  rw [← h] at L
  simp only [x64, go_sem] at L
  rw [q64]
  cases h8 : rW x <;> rw [h8] at L <;> simp only [] at L <;> simp (contextual := true) (implicitDefEqProofs := false) (decide := true) (maxSteps := 1000000) only [x64, go_sem, L]
