import Derived.Test.YtjlebmnlphjjoaaDoRh
set_option linter.unusedVariables false
set_option linter.unusedSimpArgs false
/- Numbers for sentences, as the program reckons them; no condition. -/
open Go Go.Proofs.Ytjlebmnlphjjoaa.Abs
namespace Go.Proofs.Ytjlebmnlphjjoaa.Fx
set_option maxRecDepth 100000
set_option maxHeartbeats 8000000
set_option linter.unusedSimpArgs false
def add4 (x y : R4) : R4 := ⟨x.a + y.a, x.b + y.b, x.c + y.c, x.d + y.d⟩
def zero4 : R4 := ⟨0, 0, 0, 0⟩
def sum4 (l : List R4) : R4 := l.foldl add4 zero4
theorem sum4_add (D : List R4) (x : R4) : sum4 (D ++ [x]) = add4 (sum4 D) x := by simp [sum4]
def S4 (x : R4) : List PV := [.int .i64 x.a, .int .i64 x.b, .int .i64 x.c, .int .i64 x.d]
theorem lp149 (N R : PV) (S x : R4) (hS : Bd 100000 S) (hx : Bd 100000 x) (n i : Int) (b : AC) (hb : b = lb x49.1 1) :
  CL E [0, 4, 11, 12, 13, 17, 18, 19] [0, 4, 11, 12, 13] b ⟨mkT [(0, .p N), (4, .mp 4 0 0 0), (11, .p R), (12, .p (.int .i64 n)), (13, .p (.int .i64 i)), (17, .p (.ls 1 (S4 x))), (18, .p (.int .i64 4)), (19, .p (.int .i64 0))], mkS [(4, [.ms 5000004 0 0 4 1]), (5000004, (S4 S).map .p)]⟩ =
    some (.ex 2, ⟨mkT [(0, .p N), (4, .mp 4 0 0 0), (11, .p R), (12, .p (.int .i64 n)), (13, .p (.int .i64 i))], mkS [(4, [.ms 5000004 0 0 4 1]), (5000004, (S4 (add4 S x)).map .p)]⟩) := by
  simp only [x49, go_sem] at hb; subst hb
  obtain ⟨⟨a1, a2⟩, ⟨b1, b2⟩, ⟨c1, c2⟩, ⟨d1, d2⟩⟩ := hS
  obtain ⟨⟨e1, e2⟩, ⟨f1, f2⟩, ⟨g1, g2⟩, ⟨h1, h2⟩⟩ := hx
  have wa : IntKind.wrap .i64 (S.a + x.a) = S.a + x.a := w64 (by omega) (by omega)
  have wb : IntKind.wrap .i64 (S.b + x.b) = S.b + x.b := w64 (by omega) (by omega)
  have wc : IntKind.wrap .i64 (S.c + x.c) = S.c + x.c := w64 (by omega) (by omega)
  have wd : IntKind.wrap .i64 (S.d + x.d) = S.d + x.d := w64 (by omega) (by omega)
  simp (contextual := true) (implicitDefEqProofs := false) (decide := true) (maxSteps := 1000000) only [go_sem, S4, add4, loop_eq, wa, wb, wc, wd]
theorem st_b {B o : List R4} {x y z : R4} (hx : Bd 1 x) (hy : Bd 1 y) (hz : Bd 1 z) (ho : ∀ r ∈ o, Bd 6 r) : ∀ r ∈ st B o x y z, Bd 6 r := by
  intro r hr
  unfold st at hr
  split at hr
  · exact ho r hr
  · rename_i q hq
    split at hr
    · exact ho r hr
    · split at hr
      · exact ho r hr
      · rw [List.mem_append, List.mem_singleton] at hr
        rcases hr with hr | rfl
        · exact ho r hr
        · exact lin_b (crs_b hx hy hz) hq
theorem f3_b {B : List R4} {x y : R4} (hx : Bd 1 x) (hy : Bd 1 y) : ∀ (l o : List R4), (∀ w ∈ l, Bd 1 w) → (∀ r ∈ o, Bd 6 r) → ∀ r ∈ f3 B x y l o, Bd 6 r
  | [], o, _, ho => ho
  | z :: l, o, hl, ho => f3_b hx hy l _ (fun w hw => hl w (by simp [hw])) (st_b hx hy (hl z (by simp)) ho)
theorem f2_b {B : List R4} {x : R4} (hx : Bd 1 x) : ∀ (l D o : List R4), (∀ w ∈ D, Bd 1 w) → (∀ w ∈ l, Bd 1 w) → (∀ r ∈ o, Bd 6 r) → ∀ r ∈ f2 B x D l o, Bd 6 r
  | [], D, o, _, _, ho => ho
  | y :: l, D, o, hD, hl, ho => f2_b hx l (D ++ [y]) _ (fun w hw => by
      rw [List.mem_append, List.mem_singleton] at hw
      rcases hw with hw | rfl
      · exact hD w hw
      · exact hl w (by simp)) (fun w hw => hl w (by simp [hw])) (f3_b hx (hl y (by simp)) D o hD ho)
theorem f1_b {B : List R4} : ∀ (l D o : List R4), (∀ w ∈ D, Bd 1 w) → (∀ w ∈ l, Bd 1 w) → (∀ r ∈ o, Bd 6 r) → ∀ r ∈ f1 B D l o, Bd 6 r
  | [], D, o, _, _, ho => ho
  | x :: l, D, o, hD, hl, ho => f1_b l (D ++ [x]) _ (fun w hw => by
      rw [List.mem_append, List.mem_singleton] at hw
      rcases hw with hw | rfl
      · exact hD w hw
      · exact hl w (by simp)) (fun w hw => hl w (by simp [hw])) (f2_b (hl x (by simp)) D [] o (fun w hw => by cases hw) hD ho)
theorem ins4_mem {x y : R4} : ∀ {l : List R4}, y ∈ ins4 x l ↔ y = x ∨ y ∈ l
  | [] => by simp [ins4]
  | z :: l => by
    unfold ins4; split
    · rw [List.mem_cons, ins4_mem, List.mem_cons]
      constructor
      · rintro (h | h | h) <;> simp [h]
      · rintro (h | h | h) <;> simp [h]
    · simp
theorem srt_mem {y : R4} : ∀ {l : List R4}, y ∈ srt l ↔ y ∈ l
  | [] => by simp [srt]
  | x :: l => by simp [srt, ins4_mem, srt_mem]
theorem corners_b (N : List Say) : ∀ r ∈ corners N, Bd 6 r := fun r hr => f1_b (bnd N) [] [] (fun w hw => by cases hw) (bnd_b N) (fun w hw => by cases hw) r (srt_mem.1 hr)
theorem corners_len (N : List Say) (hN : N.length ≤ 10) : (corners N).length ≤ 2744 := by
  unfold corners
  rw [srt_len]
  have h1 := f1_len (bnd N) (bnd N) [] []
  have h2 := bnd_len N
  simp only [List.length_nil] at h1
  have h3 : (bnd N).length * ((0 + (bnd N).length) * (0 + (bnd N).length)) ≤ 14 * (14 * 14) := Nat.mul_le_mul (by omega) (Nat.mul_le_mul (by omega) (by omega))
  omega
theorem sum4_b : ∀ (l : List R4), (∀ r ∈ l, Bd 6 r) → Bd (6 * l.length) (sum4 l) := by
  have key : ∀ (l : List R4) (S : R4) (M : Int), Bd M S → (∀ r ∈ l, Bd 6 r) → Bd (M + 6 * l.length) (l.foldl add4 S) := by
    intro l; induction l with
    | nil => intro S M h _; simpa using h
    | cons x l ih =>
      intro S M h hl
      obtain ⟨a, b, c, d⟩ := h
      obtain ⟨e, f, g, i⟩ := hl x (by simp)
      have := ih (add4 S x) (M + 6) ⟨by simp only [add4]; omega, by simp only [add4]; omega, by simp only [add4]; omega, by simp only [add4]; omega⟩ (fun r hr => hl r (by simp [hr]))
      have e1 : M + 6 * ((x :: l).length : Nat) = M + 6 + 6 * (l.length : Nat) := by simp only [List.length_cons]; omega
      rw [e1]; exact this
  intro l hl
  have := key l zero4 0 ⟨by decide, by decide, by decide, by decide⟩ hl
  rwa [Int.zero_add] at this
theorem lp049 (N : PV) (R : List R4) (hR : R.length ≤ 5000) (h6 : ∀ r ∈ R, Bd 6 r) (b : AC) (hb : b = lb x49.1 0) : ∀ (l D : List R4), D ++ l = R →
  CL E [0, 4, 11, 12, 13] [0, 4] b ⟨mkT [(0, .p N), (4, .mp 4 0 0 0), (11, .p (.ls 1 (R.map r4))), (12, .p (.int .i64 R.length)), (13, .p (.int .i64 D.length))], mkS [(4, [.ms 5000004 0 0 4 1]), (5000004, (S4 (sum4 D)).map .p)]⟩ =
    some (.ex 0, ⟨mkT [(0, .p N), (4, .mp 4 0 0 0)], mkS [(4, [.ms 5000004 0 0 4 1]), (5000004, (S4 (sum4 R)).map .p)]⟩) := by
  have L := lp149 N (.ls 1 (R.map r4))
  simp only [x49, go_sem] at hb; subst hb
  intro l; induction l with
  | nil => 
    intro D hj
    obtain rfl : D = R := by simpa using hj
    have h2 : ¬ ((D.length : Int) < D.length) := by omega
    rw [loop_eq]; simp (contextual := true) (implicitDefEqProofs := false) (decide := true) (maxSteps := 1000000) only [go_sem, h2, S4]
  | cons x l ih =>
    intro D hj; obtain ⟨h1, h2, h3⟩ := appc hj
    have h4 : ((D.length : Int) < R.length) := by omega
    have h7 := w64s (n := D.length) (by omega)
    have hx := (h6 x (List.mem_of_getElem? h2)).mono (by decide : (6 : Int) ≤ 100000)
    have hS := (sum4_b D (fun r hr => h6 r (by rw [← hj]; simp [hr]))).mono (by omega : (6 * D.length : Int) ≤ 100000)
    have L := L (sum4 D) x hS hx R.length D.length _ rfl
    have ih := ih (D ++ [x]) h3
    rw [sum4_add] at ih
    generalize sum4 D = T at *
    simp (contextual := true) (implicitDefEqProofs := false) (decide := true) (maxSteps := 1000000) only [x49, r4, S4, go_sem] at ih L
    rw [loop_eq]; simp (contextual := true) (implicitDefEqProofs := false) (decide := true) (maxSteps := 1000000) only [go_sem, r4, S4, h2, h4, h7, L, ih]
theorem lpA55 (N : List Say) (hN : N.length ≤ room) (g : FuncId) (hm : E.mode g = .borrow ∨ E.mode g = .pure) (p : Say → Bool) (hp : ∀ a ∈ N, CF E g [.p (.agg [.int .i64 a.f, .int .i64 a.o, .int .i64 a.t])] [] = some ⟨.p (.bool (p a)), [], []⟩) (b : AC) (hb : b = lb x55.1 0) : ∀ (l : List Say) (i : Nat), N.drop i = l →
   CL E [0, 1, 7, 8] [4] b ⟨mkT [(0, .p (.ls 3 (N.map say))), (1, .p (.fn g [] [])), (7, .p (.int .i64 N.length)), (8, .p (.int .i64 i))], mkS []⟩ =
    bif l.any p then some (.ret, ⟨mkT [(4, .p (.int .i64 (find p l i)))], mkS []⟩) else some (.ex 0, ⟨mkT [(4, .un)], mkS []⟩) := by
  simp only [x55, go_sem] at hb; subst hb
  intro l; induction l with
  | nil => 
    intro i hi; have h1 := dropn hi
    have h2 : ¬ ((i : Int) < N.length) := by omega
    rw [loop_eq]; simp (contextual := true) (implicitDefEqProofs := false) (decide := true) (maxSteps := 1000000) only [go_sem, h2]
  | cons a l ih =>
    intro i hi; obtain ⟨h1, h2, h3, h4⟩ := dropc hi
    have h5 : ((i : Int) < N.length) := by omega
    have h6 := w64s (n := i) (by unfold room at hN; omega)
    have h7 := hp a (List.mem_of_getElem? h2)
    rcases hm with hm | hm <;> rw [loop_eq] <;> simp (contextual := true) (implicitDefEqProofs := false) (decide := true) (maxSteps := 1000000) only [go_sem, h2, h5, h6, say, h7, hm, ih _ h3] <;> cases c1 : p a <;> simp [find, c1]
theorem eA47 (N : List Say) (hN : N.length ≤ room) (g : FuncId) (hm : E.mode g = .borrow ∨ E.mode g = .pure) (p : Say → Bool) (hp : ∀ a ∈ N, CF E g [.p (.agg [.int .i64 a.f, .int .i64 a.o, .int .i64 a.t])] [] = some ⟨.p (.bool (p a)), [], []⟩) : CF E 47 [.p (.ls 3 (N.map say)), .p (.fn g [] [])] [] = some ⟨.p (.bool (N.any p)), [], []⟩ := by
  have L := lpA55 N hN g hm p hp _ rfl N 0 rfl
  simp (contextual := true) (implicitDefEqProofs := false) (decide := true) (maxSteps := 1000000) only [x55, go_sem] at L
  have h := find_lt p N 0 (by decide)
  rw [q47]; simp (contextual := true) (implicitDefEqProofs := false) (decide := true) (maxSteps := 1000000) only [x47, go_sem, q55, x55, L]
  cases c1 : N.any p <;> simp [c1] at h ⊢
  all_goals omega
theorem lpB55 (N : List Say) (hN : N.length ≤ room) (g : FuncId) (hm : E.mode g = .borrow ∨ E.mode g = .pure) (r : PV) (p : Say → Bool) (hp : ∀ a ∈ N, CF E g [.p (.agg [.int .i64 a.f, .int .i64 a.o, .int .i64 a.t]), .p (.fp [r] 0)] [] = some ⟨.p (.bool (p a)), [], []⟩) (b : AC) (hb : b = lb x55.1 0) : ∀ (l : List Say) (i : Nat), N.drop i = l →
   CL E [0, 1, 7, 8] [4] b ⟨mkT [(0, .p (.ls 3 (N.map say))), (1, .p (.fn g [] [.fp [r] 0])), (7, .p (.int .i64 N.length)), (8, .p (.int .i64 i))], mkS []⟩ =
    bif l.any p then some (.ret, ⟨mkT [(4, .p (.int .i64 (find p l i)))], mkS []⟩) else some (.ex 0, ⟨mkT [(4, .un)], mkS []⟩) := by
  simp only [x55, go_sem] at hb; subst hb
  intro l; induction l with
  | nil => 
    intro i hi; have h1 := dropn hi
    have h2 : ¬ ((i : Int) < N.length) := by omega
    rw [loop_eq]; simp (contextual := true) (implicitDefEqProofs := false) (decide := true) (maxSteps := 1000000) only [go_sem, h2]
  | cons a l ih =>
    intro i hi; obtain ⟨h1, h2, h3, h4⟩ := dropc hi
    have h5 : ((i : Int) < N.length) := by omega
    have h6 := w64s (n := i) (by unfold room at hN; omega)
    have h7 := hp a (List.mem_of_getElem? h2)
    rcases hm with hm | hm <;> rw [loop_eq] <;> simp (contextual := true) (implicitDefEqProofs := false) (decide := true) (maxSteps := 1000000) only [go_sem, h2, h5, h6, say, h7, hm, ih _ h3] <;> cases c1 : p a <;> simp [find, c1]
theorem eB47 (N : List Say) (hN : N.length ≤ room) (g : FuncId) (hm : E.mode g = .borrow ∨ E.mode g = .pure) (r : PV) (p : Say → Bool) (hp : ∀ a ∈ N, CF E g [.p (.agg [.int .i64 a.f, .int .i64 a.o, .int .i64 a.t]), .p (.fp [r] 0)] [] = some ⟨.p (.bool (p a)), [], []⟩) : CF E 47 [.p (.ls 3 (N.map say)), .p (.fn g [] [.fp [r] 0])] [] = some ⟨.p (.bool (N.any p)), [], []⟩ := by
  have L := lpB55 N hN g hm r p hp _ rfl N 0 rfl
  simp (contextual := true) (implicitDefEqProofs := false) (decide := true) (maxSteps := 1000000) only [x55, go_sem] at L
  have h := find_lt p N 0 (by decide)
  rw [q47]; simp (contextual := true) (implicitDefEqProofs := false) (decide := true) (maxSteps := 1000000) only [x47, go_sem, q55, x55, L]
  cases c1 : N.any p <;> simp [c1] at h ⊢
  all_goals omega
theorem e57 (s : Say) (S : R4) (hS : Bd 1000000 S) (hs : wOk s = true) : CF E 57 [.p (.agg [.int .i64 s.f, .int .i64 s.o, .int .i64 s.t]), .p (.fp [.ls 1 [.int .i64 S.a, .int .i64 S.b, .int .i64 S.c, .int .i64 S.d]] 0)] [] = some ⟨.p (.bool !(so S s)), [], []⟩ := by
  have e := e58 S s hS hs
  rw [q57]; simp (contextual := true) (implicitDefEqProofs := false) (decide := true) (maxSteps := 1000000) only [x57, go_sem, e]
def total (N : List Say) : R4 := sum4 (corners N)
/-- Whether there are numbers for sentences. -/
def counts (N : List Say) : Bool := N.all fun s => so (total N) s
theorem total_b (N : List Say) (hN : N.length ≤ 10) : Bd 50000 (total N) := by
  have h1 := corners_len N hN
  exact (sum4_b (corners N) (corners_b N)).mono (by omega)
theorem e49 (N : List Say) (hN : N.length ≤ 10) (hw : ∀ s ∈ N, wOk s = true) : CF E 49 [.p (.ls 3 (N.map say))] [] = some ⟨.p (.tup [.ls 1 (if counts N = true then S4 (total N) else []), .bool (counts N)]), [], []⟩ := by
  have eC := e56 N hN hw
  have h1 := corners_len N hN
  have L := lp049 (.ls 3 (N.map say)) (corners N) (by omega) (corners_b N) _ rfl (corners N) [] rfl
  have tb := (total_b N hN).mono (by decide : (50000 : Int) ≤ 1000000)
  have F := eB47 N (room_ge (by omega)) 57 (by first | exact .inl rfl | exact .inr rfl) (.ls 1 [.int .i64 (total N).a, .int .i64 (total N).b, .int .i64 (total N).c, .int .i64 (total N).d]) (fun s => !(so (total N) s)) (fun s hs => e57 s (total N) tb (hw s hs))
  have hz : sum4 [] = zero4 := rfl
  have hc : (N.any fun s => !(so (total N) s)) = !counts N := by simp [counts, List.all_eq_not_any_not]
  have h4 : (4 : Int) ≤ room := by decide
  rw [hc] at F
  rw [hz] at L
  rw [show sum4 (corners N) = total N from rfl] at L
  generalize total N = T at *
  generalize counts N = cN at *
  generalize corners N = R at *
  simp (contextual := true) (implicitDefEqProofs := false) (decide := true) (maxSteps := 1000000) only [x49, r4, S4, zero4, go_sem] at L
  rw [q49]; simp (contextual := true) (implicitDefEqProofs := false) (decide := true) (maxSteps := 1000000) only [x49, go_sem, r4, S4, eC, L, F, h4]
  cases cN <;> simp
