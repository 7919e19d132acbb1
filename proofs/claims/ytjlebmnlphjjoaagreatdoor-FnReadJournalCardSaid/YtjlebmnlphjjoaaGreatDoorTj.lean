import Derived.Test.YtjlebmnlphjjoaaGreatDoorTg
import Derived.Test.YtjlebmnlphjjoaaGreatDoorTh
import Derived.Test.YtjlebmnlphjjoaaGreatDoorTi
import Derived.Test.YtjlebmnlphjjoaaGreatDoorQf
set_option linter.unusedVariables false
set_option linter.unusedSimpArgs false
/- The drawing of desks, all rounds; no condition. -/
open Go Go.Proofs.YtjlebmnlphjjoaaGreatDoor.Abs
namespace Go.Proofs.YtjlebmnlphjjoaaGreatDoor.Fx
set_option maxRecDepth 100000
set_option maxHeartbeats 8000000
set_option linter.unusedSimpArgs false
set_option linter.unusedVariables false
theorem deskDo_cases {d d' : Desk} {a : Deed} (h : deskDo d a = some d') :
    (a.k = 0 ∧ a.n = 0 ∧ ∃ s, rW a.t = some s ∧ rowOk (d.now ++ [s]) = true ∧ d' = ⟨d.now ++ [s], push d.past d.now⟩) ∨
    (a.k = 1 ∧ a.t = tx [] ∧ ∃ (A : List Say) (x : Say) (B : List Say), d.now = A ++ x :: B ∧ a.n = A.length ∧ d' = ⟨A ++ B, push d.past d.now⟩) ∨
    (a.k = 2 ∧ a.n = 0 ∧ a.t = tx [] ∧ ∃ (q : List (List Say)) (r : List Say), d.past = q ++ [r] ∧ d' = ⟨r, q⟩) := by
  unfold deskDo at h
  split at h
  · rename_i h1
    split at h
    · cases h
    · rename_i s hs
      split at h
      · rename_i ho
        simp only [Option.some.injEq] at h
        exact .inl ⟨h1.1, h1.2, s, hs, ho, h.symm⟩
      · cases h
  · split at h
    · rename_i h1
      obtain ⟨c1, c2, c3, c4⟩ := h1
      simp only [Option.some.injEq] at h
      obtain ⟨i, hi⟩ := Int.eq_ofNat_of_zero_le c3
      rw [hi] at c4 h
      obtain ⟨A, x, B, h5, h6, h7⟩ := take_drop_at d.now i (by omega)
      simp only [Int.toNat_natCast, h7] at h
      exact .inr (.inl ⟨c1, c2, A, x, B, h5, by rw [hi, h6], h.symm⟩)
    · split at h
      · rename_i h1
        obtain ⟨c1, c2, c3, c4⟩ := h1
        simp only [Option.some.injEq] at h
        have hl := List.dropLast_concat_getLast c4
        refine .inr (.inr ⟨c1, c2, c3, d.past.dropLast, d.past.getLast c4, hl.symm, ?_⟩)
        rw [← h, List.getLast?_eq_some_getLast c4]; rfl
      · cases h
theorem push_all {p : List (List Say)} {r : List Say} (hp : p.all rowOk = true) (hr : rowOk r = true) : (push p r).all rowOk = true := by
  rw [List.all_eq_true] at hp ⊢
  intro x hx
  unfold push at hx
  split at hx
  · rcases List.mem_append.1 hx with h | h
    · exact hp x h
    · rw [List.mem_singleton.1 h]; exact hr
  · rcases List.mem_append.1 (List.mem_of_mem_drop hx) with h | h
    · exact hp x h
    · rw [List.mem_singleton.1 h]; exact hr
theorem push_len {p : List (List Say)} {r : List Say} (hp : p.length ≤ 10) : (push p r).length ≤ 10 ∧ (push p r).length ≤ p.length + 1 := by
  unfold push
  split
  · simp; omega
  · simp; omega
theorem deskDo_ok {d d' : Desk} {a : Deed} (hd : deskOk d = true) (h : deskDo d a = some d') : deskOk d' = true ∧ d'.past.length ≤ d.past.length + 1 := by
  simp only [deskOk, Bool.and_eq_true, decide_eq_true_eq] at hd ⊢
  obtain ⟨⟨hn, hp⟩, hP⟩ := hd
  have hpl := push_len (r := d.now) hp
  rcases deskDo_cases h with ⟨_, _, s, _, ho, rfl⟩ | ⟨_, _, A, x, B, hA, _, rfl⟩ | ⟨_, _, _, q, r, hq, rfl⟩
  · exact ⟨⟨⟨ho, hpl.1⟩, push_all hP hn⟩, hpl.2⟩
  · rw [hA] at hn
    exact ⟨⟨⟨rowOk_sub hn, hpl.1⟩, push_all hP (hA ▸ hn)⟩, hpl.2⟩
  · rw [hq] at hp hP ⊢
    simp only [List.all_append, Bool.and_eq_true, List.all_cons, List.all_nil, Bool.and_true, List.length_append, List.length_cons, List.length_nil] at hp hP ⊢
    exact ⟨⟨⟨hP.2, by omega⟩, hP.1⟩, by omega⟩
def hdK : Nat → List (List Say) → List AV
  | _, [] => []
  | j, r :: l => .ms (5000000 * (j + 1) + 10000005) 0 0 r.length 3 :: hdK (j + 1) l
def rwK : Nat → List (List Say) → List (Nat × List AV)
  | _, [] => []
  | j, r :: l => (5000000 * (j + 1) + 10000005, (r.map say).map .p) :: rwK (j + 1) l
/-- The boxes while desks are drawn; z: behind the rows lies the row of now. -/
def SD (b : List Int) (p : Nat) (n : List Say) (R : List (List Say)) (z : Bool) : Nat → K :=
  mkS ((900, [.p (.agg [.ls 1 (b.map u8), .int .i64 (p : Nat)])]) :: (4, [.p (.agg [.nls, .nls])]) :: (5, [.ag [.ms 5000005 0 0 n.length 3, bif R.isEmpty && !z then .p .nls else .ms 10000005 0 0 R.length 1]]) :: (5000005, (n.map say).map .p) ::
    (bif R.isEmpty && !z then [] else (10000005, hdK 0 R ++ bif z then [.ms 5000005 0 0 n.length 3] else []) :: rwK 0 R))
theorem deskOk_len {n : List Say} {R : List (List Say)} (h : deskOk ⟨n, R⟩ = true) : n.length ≤ 5 := by
  simp only [deskOk, Bool.and_eq_true, decide_eq_true_eq] at h
  have := rowOk_lt h.1.1
  omega
theorem oneD0 (N : Int) (b : List Int) (p k : Nat) (hb : Rdr b) (hp : p ≤ 800000) (hk : k ≤ 100) (n : List Say) (hd : deskOk ⟨n, []⟩ = true) (b0 : AC) (hb0 : b0 = lb x46.1 0) :
    ∃ n' R' z', deskOk ⟨n', R'⟩ = true ∧ R'.length ≤ 1 ∧ CL E [0, 1, 4, 5, 6] [0, 1, 4, 5] b0 ⟨mkT [(0, .mp 900 0 0 0), (1, .p (.int .i64 N)), (4, .mp 4 0 0 0), (5, .mp 5 0 0 0), (6, .p (.int .i64 (k + 1 : Nat)))], SD b p n [] false⟩ = CL E [0, 1, 4, 5, 6] [0, 1, 4, 5] b0 ⟨mkT [(0, .mp 900 0 0 0), (1, .p (.int .i64 N)), (4, .mp 4 0 0 0), (5, .mp 5 0 0 0), (6, .p (.int .i64 (k : Nat)))], SD b (drD b p n.length).p n' R' z'⟩ := by
  have hn : n.length ≤ 1000 := by have := deskOk_len hd; omega
  cases h : deskDo ⟨n, []⟩ (drd b p n.length) with
  | none =>
    have w := st046 N b p k hb hp hk n hn b0 hb0 (no010060 n hd _ _ _ h)
    exact ⟨n, [], false, hd, by simp, by simp only [SD, hdK, rwK, List.isEmpty, List.length_cons, List.length_nil, Nat.reduceMul, Nat.reduceAdd, Nat.zero_add, Bool.and_true, Bool.and_false, Bool.true_and, Bool.false_and, Bool.not_true, Bool.not_false, cond_true, cond_false, List.append_nil, List.nil_append, List.cons_append]; exact w⟩
  | some d' =>
    have ho := deskDo_ok hd h
    rcases deskDo_cases h with ⟨h1, h2, s, hs, hr, rfl⟩ | ⟨h1, h2, A, x, B, hA, h3, rfl⟩ | ⟨h1, h2, h3, q, r, hq, rfl⟩
    · have w := gr046 N b p k hb hp hk n hn b0 hb0 (n ++ [s]) (by rw [h1, h2]; exact sy010060 n hd _ s hs hr)
      exact ⟨n ++ [s], [] ++ [n], false, ho.1, by simp, by simp only [SD, hdK, rwK, List.isEmpty, List.length_cons, List.length_nil, Nat.reduceMul, Nat.reduceAdd, Nat.zero_add, Bool.and_true, Bool.and_false, Bool.true_and, Bool.false_and, Bool.not_true, Bool.not_false, cond_true, cond_false, List.append_nil, List.nil_append, List.cons_append]; exact w⟩
    · have w := gr046 N b p k hb hp hk n hn b0 hb0 (A ++ B) (by rw [h1, h2, h3]; exact dr010060 n A B x hd hA)
      exact ⟨A ++ B, [] ++ [n], false, ho.1, by simp, by simp only [SD, hdK, rwK, List.isEmpty, List.length_cons, List.length_nil, Nat.reduceMul, Nat.reduceAdd, Nat.zero_add, Bool.and_true, Bool.and_false, Bool.true_and, Bool.false_and, Bool.not_true, Bool.not_false, cond_true, cond_false, List.append_nil, List.nil_append, List.cons_append]; exact w⟩
    · simp at hq
theorem oneD0s (N : Int) (b : List Int) (p k : Nat) (hb : Rdr b) (hp : p ≤ 800000) (hk : k ≤ 100) (n : List Say) (hd : deskOk ⟨n, []⟩ = true) (b0 : AC) (hb0 : b0 = lb x46.1 0) :
    ∃ n' R' z', deskOk ⟨n', R'⟩ = true ∧ R'.length ≤ 1 ∧ CL E [0, 1, 4, 5, 6] [0, 1, 4, 5] b0 ⟨mkT [(0, .mp 900 0 0 0), (1, .p (.int .i64 N)), (4, .mp 4 0 0 0), (5, .mp 5 0 0 0), (6, .p (.int .i64 (k + 1 : Nat)))], SD b p n [] true⟩ = CL E [0, 1, 4, 5, 6] [0, 1, 4, 5] b0 ⟨mkT [(0, .mp 900 0 0 0), (1, .p (.int .i64 N)), (4, .mp 4 0 0 0), (5, .mp 5 0 0 0), (6, .p (.int .i64 (k : Nat)))], SD b (drD b p n.length).p n' R' z'⟩ := by
  have hn : n.length ≤ 1000 := by have := deskOk_len hd; omega
  cases h : deskDo ⟨n, []⟩ (drd b p n.length) with
  | none =>
    have w := st0s46 N b p k hb hp hk n hn b0 hb0 (no010060 n hd _ _ _ h)
    exact ⟨n, [], true, hd, by simp, by simp only [SD, hdK, rwK, List.isEmpty, List.length_cons, List.length_nil, Nat.reduceMul, Nat.reduceAdd, Nat.zero_add, Bool.and_true, Bool.and_false, Bool.true_and, Bool.false_and, Bool.not_true, Bool.not_false, cond_true, cond_false, List.append_nil, List.nil_append, List.cons_append]; exact w⟩
  | some d' =>
    have ho := deskDo_ok hd h
    rcases deskDo_cases h with ⟨h1, h2, s, hs, hr, rfl⟩ | ⟨h1, h2, A, x, B, hA, h3, rfl⟩ | ⟨h1, h2, h3, q, r, hq, rfl⟩
    · have w := gr0s46 N b p k hb hp hk n hn b0 hb0 (n ++ [s]) (by rw [h1, h2]; exact sy010060 n hd _ s hs hr)
      exact ⟨n ++ [s], [] ++ [n], false, ho.1, by simp, by simp only [SD, hdK, rwK, List.isEmpty, List.length_cons, List.length_nil, Nat.reduceMul, Nat.reduceAdd, Nat.zero_add, Bool.and_true, Bool.and_false, Bool.true_and, Bool.false_and, Bool.not_true, Bool.not_false, cond_true, cond_false, List.append_nil, List.nil_append, List.cons_append]; exact w⟩
    · have w := gr0s46 N b p k hb hp hk n hn b0 hb0 (A ++ B) (by rw [h1, h2, h3]; exact dr010060 n A B x hd hA)
      exact ⟨A ++ B, [] ++ [n], false, ho.1, by simp, by simp only [SD, hdK, rwK, List.isEmpty, List.length_cons, List.length_nil, Nat.reduceMul, Nat.reduceAdd, Nat.zero_add, Bool.and_true, Bool.and_false, Bool.true_and, Bool.false_and, Bool.not_true, Bool.not_false, cond_true, cond_false, List.append_nil, List.nil_append, List.cons_append]; exact w⟩
    · simp at hq
theorem oneD1 (N : Int) (b : List Int) (p k : Nat) (hb : Rdr b) (hp : p ≤ 800000) (hk : k ≤ 100) (n : List Say) (r0 : List Say) (hd : deskOk ⟨n, [r0]⟩ = true) (b0 : AC) (hb0 : b0 = lb x46.1 0) :
    ∃ n' R' z', deskOk ⟨n', R'⟩ = true ∧ R'.length ≤ 2 ∧ CL E [0, 1, 4, 5, 6] [0, 1, 4, 5] b0 ⟨mkT [(0, .mp 900 0 0 0), (1, .p (.int .i64 N)), (4, .mp 4 0 0 0), (5, .mp 5 0 0 0), (6, .p (.int .i64 (k + 1 : Nat)))], SD b p n [r0] false⟩ = CL E [0, 1, 4, 5, 6] [0, 1, 4, 5] b0 ⟨mkT [(0, .mp 900 0 0 0), (1, .p (.int .i64 N)), (4, .mp 4 0 0 0), (5, .mp 5 0 0 0), (6, .p (.int .i64 (k : Nat)))], SD b (drD b p n.length).p n' R' z'⟩ := by
  have hn : n.length ≤ 1000 := by have := deskOk_len hd; omega
  cases h : deskDo ⟨n, [r0]⟩ (drd b p n.length) with
  | none =>
    have w := st146 N b p k hb hp hk n r0 hn b0 hb0 (no110060 n r0 hd _ _ _ h)
    exact ⟨n, [r0], false, hd, by simp, by simp only [SD, hdK, rwK, List.isEmpty, List.length_cons, List.length_nil, Nat.reduceMul, Nat.reduceAdd, Nat.zero_add, Bool.and_true, Bool.and_false, Bool.true_and, Bool.false_and, Bool.not_true, Bool.not_false, cond_true, cond_false, List.append_nil, List.nil_append, List.cons_append]; exact w⟩
  | some d' =>
    have ho := deskDo_ok hd h
    rcases deskDo_cases h with ⟨h1, h2, s, hs, hr, rfl⟩ | ⟨h1, h2, A, x, B, hA, h3, rfl⟩ | ⟨h1, h2, h3, q, r, hq, rfl⟩
    · have w := gr146 N b p k hb hp hk n r0 hn b0 hb0 (n ++ [s]) (by rw [h1, h2]; exact sy110060 n r0 hd _ s hs hr)
      exact ⟨n ++ [s], [r0] ++ [n], false, ho.1, by simp, by simp only [SD, hdK, rwK, List.isEmpty, List.length_cons, List.length_nil, Nat.reduceMul, Nat.reduceAdd, Nat.zero_add, Bool.and_true, Bool.and_false, Bool.true_and, Bool.false_and, Bool.not_true, Bool.not_false, cond_true, cond_false, List.append_nil, List.nil_append, List.cons_append]; exact w⟩
    · have w := gr146 N b p k hb hp hk n r0 hn b0 hb0 (A ++ B) (by rw [h1, h2, h3]; exact dr110060 n A B x r0 hd hA)
      exact ⟨A ++ B, [r0] ++ [n], false, ho.1, by simp, by simp only [SD, hdK, rwK, List.isEmpty, List.length_cons, List.length_nil, Nat.reduceMul, Nat.reduceAdd, Nat.zero_add, Bool.and_true, Bool.and_false, Bool.true_and, Bool.false_and, Bool.not_true, Bool.not_false, cond_true, cond_false, List.append_nil, List.nil_append, List.cons_append]; exact w⟩
    · have e : [] = q ∧ r0 = r := by
        have := List.append_inj' (show [] ++ [r0] = q ++ [r] from hq) rfl
        exact ⟨this.1, by simpa using this.2⟩
      obtain ⟨rfl, rfl⟩ := e
      have w := bk146 N b p k hb hp hk n r0 hn b0 hb0 (by rw [h1, h2, h3]; exact bk110060 n r0 hd)
      exact ⟨r0, [], true, ho.1, by simp, by simp only [SD, hdK, rwK, List.isEmpty, List.length_cons, List.length_nil, Nat.reduceMul, Nat.reduceAdd, Nat.zero_add, Bool.and_true, Bool.and_false, Bool.true_and, Bool.false_and, Bool.not_true, Bool.not_false, cond_true, cond_false, List.append_nil, List.nil_append, List.cons_append]; exact w⟩
theorem oneD1s (N : Int) (b : List Int) (p k : Nat) (hb : Rdr b) (hp : p ≤ 800000) (hk : k ≤ 100) (n : List Say) (r0 : List Say) (hd : deskOk ⟨n, [r0]⟩ = true) (b0 : AC) (hb0 : b0 = lb x46.1 0) :
    ∃ n' R' z', deskOk ⟨n', R'⟩ = true ∧ R'.length ≤ 2 ∧ CL E [0, 1, 4, 5, 6] [0, 1, 4, 5] b0 ⟨mkT [(0, .mp 900 0 0 0), (1, .p (.int .i64 N)), (4, .mp 4 0 0 0), (5, .mp 5 0 0 0), (6, .p (.int .i64 (k + 1 : Nat)))], SD b p n [r0] true⟩ = CL E [0, 1, 4, 5, 6] [0, 1, 4, 5] b0 ⟨mkT [(0, .mp 900 0 0 0), (1, .p (.int .i64 N)), (4, .mp 4 0 0 0), (5, .mp 5 0 0 0), (6, .p (.int .i64 (k : Nat)))], SD b (drD b p n.length).p n' R' z'⟩ := by
  have hn : n.length ≤ 1000 := by have := deskOk_len hd; omega
  cases h : deskDo ⟨n, [r0]⟩ (drd b p n.length) with
  | none =>
    have w := st1s46 N b p k hb hp hk n r0 hn b0 hb0 (no110060 n r0 hd _ _ _ h)
    exact ⟨n, [r0], true, hd, by simp, by simp only [SD, hdK, rwK, List.isEmpty, List.length_cons, List.length_nil, Nat.reduceMul, Nat.reduceAdd, Nat.zero_add, Bool.and_true, Bool.and_false, Bool.true_and, Bool.false_and, Bool.not_true, Bool.not_false, cond_true, cond_false, List.append_nil, List.nil_append, List.cons_append]; exact w⟩
  | some d' =>
    have ho := deskDo_ok hd h
    rcases deskDo_cases h with ⟨h1, h2, s, hs, hr, rfl⟩ | ⟨h1, h2, A, x, B, hA, h3, rfl⟩ | ⟨h1, h2, h3, q, r, hq, rfl⟩
    · have w := gr1s46 N b p k hb hp hk n r0 hn b0 hb0 (n ++ [s]) (by rw [h1, h2]; exact sy110060 n r0 hd _ s hs hr)
      exact ⟨n ++ [s], [r0] ++ [n], false, ho.1, by simp, by simp only [SD, hdK, rwK, List.isEmpty, List.length_cons, List.length_nil, Nat.reduceMul, Nat.reduceAdd, Nat.zero_add, Bool.and_true, Bool.and_false, Bool.true_and, Bool.false_and, Bool.not_true, Bool.not_false, cond_true, cond_false, List.append_nil, List.nil_append, List.cons_append]; exact w⟩
    · have w := gr1s46 N b p k hb hp hk n r0 hn b0 hb0 (A ++ B) (by rw [h1, h2, h3]; exact dr110060 n A B x r0 hd hA)
      exact ⟨A ++ B, [r0] ++ [n], false, ho.1, by simp, by simp only [SD, hdK, rwK, List.isEmpty, List.length_cons, List.length_nil, Nat.reduceMul, Nat.reduceAdd, Nat.zero_add, Bool.and_true, Bool.and_false, Bool.true_and, Bool.false_and, Bool.not_true, Bool.not_false, cond_true, cond_false, List.append_nil, List.nil_append, List.cons_append]; exact w⟩
    · have e : [] = q ∧ r0 = r := by
        have := List.append_inj' (show [] ++ [r0] = q ++ [r] from hq) rfl
        exact ⟨this.1, by simpa using this.2⟩
      obtain ⟨rfl, rfl⟩ := e
      have w := bk1s46 N b p k hb hp hk n r0 hn b0 hb0 (by rw [h1, h2, h3]; exact bk110060 n r0 hd)
      exact ⟨r0, [], true, ho.1, by simp, by simp only [SD, hdK, rwK, List.isEmpty, List.length_cons, List.length_nil, Nat.reduceMul, Nat.reduceAdd, Nat.zero_add, Bool.and_true, Bool.and_false, Bool.true_and, Bool.false_and, Bool.not_true, Bool.not_false, cond_true, cond_false, List.append_nil, List.nil_append, List.cons_append]; exact w⟩
theorem oneD2 (N : Int) (b : List Int) (p k : Nat) (hb : Rdr b) (hp : p ≤ 800000) (hk : k ≤ 100) (n : List Say) (r0 r1 : List Say) (hd : deskOk ⟨n, [r0, r1]⟩ = true) (b0 : AC) (hb0 : b0 = lb x46.1 0) :
    ∃ n' R' z', deskOk ⟨n', R'⟩ = true ∧ R'.length ≤ 3 ∧ CL E [0, 1, 4, 5, 6] [0, 1, 4, 5] b0 ⟨mkT [(0, .mp 900 0 0 0), (1, .p (.int .i64 N)), (4, .mp 4 0 0 0), (5, .mp 5 0 0 0), (6, .p (.int .i64 (k + 1 : Nat)))], SD b p n [r0, r1] false⟩ = CL E [0, 1, 4, 5, 6] [0, 1, 4, 5] b0 ⟨mkT [(0, .mp 900 0 0 0), (1, .p (.int .i64 N)), (4, .mp 4 0 0 0), (5, .mp 5 0 0 0), (6, .p (.int .i64 (k : Nat)))], SD b (drD b p n.length).p n' R' z'⟩ := by
  have hn : n.length ≤ 1000 := by have := deskOk_len hd; omega
  cases h : deskDo ⟨n, [r0, r1]⟩ (drd b p n.length) with
  | none =>
    have w := st246 N b p k hb hp hk n r0 r1 hn b0 hb0 (no210060 n r0 r1 hd _ _ _ h)
    exact ⟨n, [r0, r1], false, hd, by simp, by simp only [SD, hdK, rwK, List.isEmpty, List.length_cons, List.length_nil, Nat.reduceMul, Nat.reduceAdd, Nat.zero_add, Bool.and_true, Bool.and_false, Bool.true_and, Bool.false_and, Bool.not_true, Bool.not_false, cond_true, cond_false, List.append_nil, List.nil_append, List.cons_append]; exact w⟩
  | some d' =>
    have ho := deskDo_ok hd h
    rcases deskDo_cases h with ⟨h1, h2, s, hs, hr, rfl⟩ | ⟨h1, h2, A, x, B, hA, h3, rfl⟩ | ⟨h1, h2, h3, q, r, hq, rfl⟩
    · have w := gr246 N b p k hb hp hk n r0 r1 hn b0 hb0 (n ++ [s]) (by rw [h1, h2]; exact sy210060 n r0 r1 hd _ s hs hr)
      exact ⟨n ++ [s], [r0, r1] ++ [n], false, ho.1, by simp, by simp only [SD, hdK, rwK, List.isEmpty, List.length_cons, List.length_nil, Nat.reduceMul, Nat.reduceAdd, Nat.zero_add, Bool.and_true, Bool.and_false, Bool.true_and, Bool.false_and, Bool.not_true, Bool.not_false, cond_true, cond_false, List.append_nil, List.nil_append, List.cons_append]; exact w⟩
    · have w := gr246 N b p k hb hp hk n r0 r1 hn b0 hb0 (A ++ B) (by rw [h1, h2, h3]; exact dr210060 n A B x r0 r1 hd hA)
      exact ⟨A ++ B, [r0, r1] ++ [n], false, ho.1, by simp, by simp only [SD, hdK, rwK, List.isEmpty, List.length_cons, List.length_nil, Nat.reduceMul, Nat.reduceAdd, Nat.zero_add, Bool.and_true, Bool.and_false, Bool.true_and, Bool.false_and, Bool.not_true, Bool.not_false, cond_true, cond_false, List.append_nil, List.nil_append, List.cons_append]; exact w⟩
    · have e : [r0] = q ∧ r1 = r := by
        have := List.append_inj' (show [r0] ++ [r1] = q ++ [r] from hq) rfl
        exact ⟨this.1, by simpa using this.2⟩
      obtain ⟨rfl, rfl⟩ := e
      have w := bk246 N b p k hb hp hk n r0 r1 hn b0 hb0 (by rw [h1, h2, h3]; exact bk210060 n r0 r1 hd)
      exact ⟨r1, [r0], true, ho.1, by simp, by simp only [SD, hdK, rwK, List.isEmpty, List.length_cons, List.length_nil, Nat.reduceMul, Nat.reduceAdd, Nat.zero_add, Bool.and_true, Bool.and_false, Bool.true_and, Bool.false_and, Bool.not_true, Bool.not_false, cond_true, cond_false, List.append_nil, List.nil_append, List.cons_append]; exact w⟩
theorem oneD2s (N : Int) (b : List Int) (p k : Nat) (hb : Rdr b) (hp : p ≤ 800000) (hk : k ≤ 100) (n : List Say) (r0 r1 : List Say) (hd : deskOk ⟨n, [r0, r1]⟩ = true) (b0 : AC) (hb0 : b0 = lb x46.1 0) :
    ∃ n' R' z', deskOk ⟨n', R'⟩ = true ∧ R'.length ≤ 3 ∧ CL E [0, 1, 4, 5, 6] [0, 1, 4, 5] b0 ⟨mkT [(0, .mp 900 0 0 0), (1, .p (.int .i64 N)), (4, .mp 4 0 0 0), (5, .mp 5 0 0 0), (6, .p (.int .i64 (k + 1 : Nat)))], SD b p n [r0, r1] true⟩ = CL E [0, 1, 4, 5, 6] [0, 1, 4, 5] b0 ⟨mkT [(0, .mp 900 0 0 0), (1, .p (.int .i64 N)), (4, .mp 4 0 0 0), (5, .mp 5 0 0 0), (6, .p (.int .i64 (k : Nat)))], SD b (drD b p n.length).p n' R' z'⟩ := by
  have hn : n.length ≤ 1000 := by have := deskOk_len hd; omega
  cases h : deskDo ⟨n, [r0, r1]⟩ (drd b p n.length) with
  | none =>
    have w := st2s46 N b p k hb hp hk n r0 r1 hn b0 hb0 (no210060 n r0 r1 hd _ _ _ h)
    exact ⟨n, [r0, r1], true, hd, by simp, by simp only [SD, hdK, rwK, List.isEmpty, List.length_cons, List.length_nil, Nat.reduceMul, Nat.reduceAdd, Nat.zero_add, Bool.and_true, Bool.and_false, Bool.true_and, Bool.false_and, Bool.not_true, Bool.not_false, cond_true, cond_false, List.append_nil, List.nil_append, List.cons_append]; exact w⟩
  | some d' =>
    have ho := deskDo_ok hd h
    rcases deskDo_cases h with ⟨h1, h2, s, hs, hr, rfl⟩ | ⟨h1, h2, A, x, B, hA, h3, rfl⟩ | ⟨h1, h2, h3, q, r, hq, rfl⟩
    · have w := gr2s46 N b p k hb hp hk n r0 r1 hn b0 hb0 (n ++ [s]) (by rw [h1, h2]; exact sy210060 n r0 r1 hd _ s hs hr)
      exact ⟨n ++ [s], [r0, r1] ++ [n], false, ho.1, by simp, by simp only [SD, hdK, rwK, List.isEmpty, List.length_cons, List.length_nil, Nat.reduceMul, Nat.reduceAdd, Nat.zero_add, Bool.and_true, Bool.and_false, Bool.true_and, Bool.false_and, Bool.not_true, Bool.not_false, cond_true, cond_false, List.append_nil, List.nil_append, List.cons_append]; exact w⟩
    · have w := gr2s46 N b p k hb hp hk n r0 r1 hn b0 hb0 (A ++ B) (by rw [h1, h2, h3]; exact dr210060 n A B x r0 r1 hd hA)
      exact ⟨A ++ B, [r0, r1] ++ [n], false, ho.1, by simp, by simp only [SD, hdK, rwK, List.isEmpty, List.length_cons, List.length_nil, Nat.reduceMul, Nat.reduceAdd, Nat.zero_add, Bool.and_true, Bool.and_false, Bool.true_and, Bool.false_and, Bool.not_true, Bool.not_false, cond_true, cond_false, List.append_nil, List.nil_append, List.cons_append]; exact w⟩
    · have e : [r0] = q ∧ r1 = r := by
        have := List.append_inj' (show [r0] ++ [r1] = q ++ [r] from hq) rfl
        exact ⟨this.1, by simpa using this.2⟩
      obtain ⟨rfl, rfl⟩ := e
      have w := bk2s46 N b p k hb hp hk n r0 r1 hn b0 hb0 (by rw [h1, h2, h3]; exact bk210060 n r0 r1 hd)
      exact ⟨r1, [r0], true, ho.1, by simp, by simp only [SD, hdK, rwK, List.isEmpty, List.length_cons, List.length_nil, Nat.reduceMul, Nat.reduceAdd, Nat.zero_add, Bool.and_true, Bool.and_false, Bool.true_and, Bool.false_and, Bool.not_true, Bool.not_false, cond_true, cond_false, List.append_nil, List.nil_append, List.cons_append]; exact w⟩
theorem oneD3 (N : Int) (b : List Int) (p k : Nat) (hb : Rdr b) (hp : p ≤ 800000) (hk : k ≤ 100) (n : List Say) (r0 r1 r2 : List Say) (hd : deskOk ⟨n, [r0, r1, r2]⟩ = true) (b0 : AC) (hb0 : b0 = lb x46.1 0) :
    ∃ n' R' z', deskOk ⟨n', R'⟩ = true ∧ R'.length ≤ 4 ∧ CL E [0, 1, 4, 5, 6] [0, 1, 4, 5] b0 ⟨mkT [(0, .mp 900 0 0 0), (1, .p (.int .i64 N)), (4, .mp 4 0 0 0), (5, .mp 5 0 0 0), (6, .p (.int .i64 (k + 1 : Nat)))], SD b p n [r0, r1, r2] false⟩ = CL E [0, 1, 4, 5, 6] [0, 1, 4, 5] b0 ⟨mkT [(0, .mp 900 0 0 0), (1, .p (.int .i64 N)), (4, .mp 4 0 0 0), (5, .mp 5 0 0 0), (6, .p (.int .i64 (k : Nat)))], SD b (drD b p n.length).p n' R' z'⟩ := by
  have hn : n.length ≤ 1000 := by have := deskOk_len hd; omega
  cases h : deskDo ⟨n, [r0, r1, r2]⟩ (drd b p n.length) with
  | none =>
    have w := st346 N b p k hb hp hk n r0 r1 r2 hn b0 hb0 (no310060 n r0 r1 r2 hd _ _ _ h)
    exact ⟨n, [r0, r1, r2], false, hd, by simp, by simp only [SD, hdK, rwK, List.isEmpty, List.length_cons, List.length_nil, Nat.reduceMul, Nat.reduceAdd, Nat.zero_add, Bool.and_true, Bool.and_false, Bool.true_and, Bool.false_and, Bool.not_true, Bool.not_false, cond_true, cond_false, List.append_nil, List.nil_append, List.cons_append]; exact w⟩
  | some d' =>
    have ho := deskDo_ok hd h
    rcases deskDo_cases h with ⟨h1, h2, s, hs, hr, rfl⟩ | ⟨h1, h2, A, x, B, hA, h3, rfl⟩ | ⟨h1, h2, h3, q, r, hq, rfl⟩
    · have w := gr346 N b p k hb hp hk n r0 r1 r2 hn b0 hb0 (n ++ [s]) (by rw [h1, h2]; exact sy310060 n r0 r1 r2 hd _ s hs hr)
      exact ⟨n ++ [s], [r0, r1, r2] ++ [n], false, ho.1, by simp, by simp only [SD, hdK, rwK, List.isEmpty, List.length_cons, List.length_nil, Nat.reduceMul, Nat.reduceAdd, Nat.zero_add, Bool.and_true, Bool.and_false, Bool.true_and, Bool.false_and, Bool.not_true, Bool.not_false, cond_true, cond_false, List.append_nil, List.nil_append, List.cons_append]; exact w⟩
    · have w := gr346 N b p k hb hp hk n r0 r1 r2 hn b0 hb0 (A ++ B) (by rw [h1, h2, h3]; exact dr310060 n A B x r0 r1 r2 hd hA)
      exact ⟨A ++ B, [r0, r1, r2] ++ [n], false, ho.1, by simp, by simp only [SD, hdK, rwK, List.isEmpty, List.length_cons, List.length_nil, Nat.reduceMul, Nat.reduceAdd, Nat.zero_add, Bool.and_true, Bool.and_false, Bool.true_and, Bool.false_and, Bool.not_true, Bool.not_false, cond_true, cond_false, List.append_nil, List.nil_append, List.cons_append]; exact w⟩
    · have e : [r0, r1] = q ∧ r2 = r := by
        have := List.append_inj' (show [r0, r1] ++ [r2] = q ++ [r] from hq) rfl
        exact ⟨this.1, by simpa using this.2⟩
      obtain ⟨rfl, rfl⟩ := e
      have w := bk346 N b p k hb hp hk n r0 r1 r2 hn b0 hb0 (by rw [h1, h2, h3]; exact bk310060 n r0 r1 r2 hd)
      exact ⟨r2, [r0, r1], true, ho.1, by simp, by simp only [SD, hdK, rwK, List.isEmpty, List.length_cons, List.length_nil, Nat.reduceMul, Nat.reduceAdd, Nat.zero_add, Bool.and_true, Bool.and_false, Bool.true_and, Bool.false_and, Bool.not_true, Bool.not_false, cond_true, cond_false, List.append_nil, List.nil_append, List.cons_append]; exact w⟩
theorem oneD3s (N : Int) (b : List Int) (p k : Nat) (hb : Rdr b) (hp : p ≤ 800000) (hk : k ≤ 100) (n : List Say) (r0 r1 r2 : List Say) (hd : deskOk ⟨n, [r0, r1, r2]⟩ = true) (b0 : AC) (hb0 : b0 = lb x46.1 0) :
    ∃ n' R' z', deskOk ⟨n', R'⟩ = true ∧ R'.length ≤ 4 ∧ CL E [0, 1, 4, 5, 6] [0, 1, 4, 5] b0 ⟨mkT [(0, .mp 900 0 0 0), (1, .p (.int .i64 N)), (4, .mp 4 0 0 0), (5, .mp 5 0 0 0), (6, .p (.int .i64 (k + 1 : Nat)))], SD b p n [r0, r1, r2] true⟩ = CL E [0, 1, 4, 5, 6] [0, 1, 4, 5] b0 ⟨mkT [(0, .mp 900 0 0 0), (1, .p (.int .i64 N)), (4, .mp 4 0 0 0), (5, .mp 5 0 0 0), (6, .p (.int .i64 (k : Nat)))], SD b (drD b p n.length).p n' R' z'⟩ := by
  have hn : n.length ≤ 1000 := by have := deskOk_len hd; omega
  cases h : deskDo ⟨n, [r0, r1, r2]⟩ (drd b p n.length) with
  | none =>
    have w := st3s46 N b p k hb hp hk n r0 r1 r2 hn b0 hb0 (no310060 n r0 r1 r2 hd _ _ _ h)
    exact ⟨n, [r0, r1, r2], true, hd, by simp, by simp only [SD, hdK, rwK, List.isEmpty, List.length_cons, List.length_nil, Nat.reduceMul, Nat.reduceAdd, Nat.zero_add, Bool.and_true, Bool.and_false, Bool.true_and, Bool.false_and, Bool.not_true, Bool.not_false, cond_true, cond_false, List.append_nil, List.nil_append, List.cons_append]; exact w⟩
  | some d' =>
    have ho := deskDo_ok hd h
    rcases deskDo_cases h with ⟨h1, h2, s, hs, hr, rfl⟩ | ⟨h1, h2, A, x, B, hA, h3, rfl⟩ | ⟨h1, h2, h3, q, r, hq, rfl⟩
    · have w := gr3s46 N b p k hb hp hk n r0 r1 r2 hn b0 hb0 (n ++ [s]) (by rw [h1, h2]; exact sy310060 n r0 r1 r2 hd _ s hs hr)
      exact ⟨n ++ [s], [r0, r1, r2] ++ [n], false, ho.1, by simp, by simp only [SD, hdK, rwK, List.isEmpty, List.length_cons, List.length_nil, Nat.reduceMul, Nat.reduceAdd, Nat.zero_add, Bool.and_true, Bool.and_false, Bool.true_and, Bool.false_and, Bool.not_true, Bool.not_false, cond_true, cond_false, List.append_nil, List.nil_append, List.cons_append]; exact w⟩
    · have w := gr3s46 N b p k hb hp hk n r0 r1 r2 hn b0 hb0 (A ++ B) (by rw [h1, h2, h3]; exact dr310060 n A B x r0 r1 r2 hd hA)
      exact ⟨A ++ B, [r0, r1, r2] ++ [n], false, ho.1, by simp, by simp only [SD, hdK, rwK, List.isEmpty, List.length_cons, List.length_nil, Nat.reduceMul, Nat.reduceAdd, Nat.zero_add, Bool.and_true, Bool.and_false, Bool.true_and, Bool.false_and, Bool.not_true, Bool.not_false, cond_true, cond_false, List.append_nil, List.nil_append, List.cons_append]; exact w⟩
    · have e : [r0, r1] = q ∧ r2 = r := by
        have := List.append_inj' (show [r0, r1] ++ [r2] = q ++ [r] from hq) rfl
        exact ⟨this.1, by simpa using this.2⟩
      obtain ⟨rfl, rfl⟩ := e
      have w := bk3s46 N b p k hb hp hk n r0 r1 r2 hn b0 hb0 (by rw [h1, h2, h3]; exact bk310060 n r0 r1 r2 hd)
      exact ⟨r2, [r0, r1], true, ho.1, by simp, by simp only [SD, hdK, rwK, List.isEmpty, List.length_cons, List.length_nil, Nat.reduceMul, Nat.reduceAdd, Nat.zero_add, Bool.and_true, Bool.and_false, Bool.true_and, Bool.false_and, Bool.not_true, Bool.not_false, cond_true, cond_false, List.append_nil, List.nil_append, List.cons_append]; exact w⟩
theorem oneD4 (N : Int) (b : List Int) (p k : Nat) (hb : Rdr b) (hp : p ≤ 800000) (hk : k ≤ 100) (n : List Say) (r0 r1 r2 r3 : List Say) (hd : deskOk ⟨n, [r0, r1, r2, r3]⟩ = true) (b0 : AC) (hb0 : b0 = lb x46.1 0) :
    ∃ n' R' z', deskOk ⟨n', R'⟩ = true ∧ R'.length ≤ 5 ∧ CL E [0, 1, 4, 5, 6] [0, 1, 4, 5] b0 ⟨mkT [(0, .mp 900 0 0 0), (1, .p (.int .i64 N)), (4, .mp 4 0 0 0), (5, .mp 5 0 0 0), (6, .p (.int .i64 (k + 1 : Nat)))], SD b p n [r0, r1, r2, r3] false⟩ = CL E [0, 1, 4, 5, 6] [0, 1, 4, 5] b0 ⟨mkT [(0, .mp 900 0 0 0), (1, .p (.int .i64 N)), (4, .mp 4 0 0 0), (5, .mp 5 0 0 0), (6, .p (.int .i64 (k : Nat)))], SD b (drD b p n.length).p n' R' z'⟩ := by
  have hn : n.length ≤ 1000 := by have := deskOk_len hd; omega
  cases h : deskDo ⟨n, [r0, r1, r2, r3]⟩ (drd b p n.length) with
  | none =>
    have w := st446 N b p k hb hp hk n r0 r1 r2 r3 hn b0 hb0 (no410060 n r0 r1 r2 r3 hd _ _ _ h)
    exact ⟨n, [r0, r1, r2, r3], false, hd, by simp, by simp only [SD, hdK, rwK, List.isEmpty, List.length_cons, List.length_nil, Nat.reduceMul, Nat.reduceAdd, Nat.zero_add, Bool.and_true, Bool.and_false, Bool.true_and, Bool.false_and, Bool.not_true, Bool.not_false, cond_true, cond_false, List.append_nil, List.nil_append, List.cons_append]; exact w⟩
  | some d' =>
    have ho := deskDo_ok hd h
    rcases deskDo_cases h with ⟨h1, h2, s, hs, hr, rfl⟩ | ⟨h1, h2, A, x, B, hA, h3, rfl⟩ | ⟨h1, h2, h3, q, r, hq, rfl⟩
    · have w := gr446 N b p k hb hp hk n r0 r1 r2 r3 hn b0 hb0 (n ++ [s]) (by rw [h1, h2]; exact sy410060 n r0 r1 r2 r3 hd _ s hs hr)
      exact ⟨n ++ [s], [r0, r1, r2, r3] ++ [n], false, ho.1, by simp, by simp only [SD, hdK, rwK, List.isEmpty, List.length_cons, List.length_nil, Nat.reduceMul, Nat.reduceAdd, Nat.zero_add, Bool.and_true, Bool.and_false, Bool.true_and, Bool.false_and, Bool.not_true, Bool.not_false, cond_true, cond_false, List.append_nil, List.nil_append, List.cons_append]; exact w⟩
    · have w := gr446 N b p k hb hp hk n r0 r1 r2 r3 hn b0 hb0 (A ++ B) (by rw [h1, h2, h3]; exact dr410060 n A B x r0 r1 r2 r3 hd hA)
      exact ⟨A ++ B, [r0, r1, r2, r3] ++ [n], false, ho.1, by simp, by simp only [SD, hdK, rwK, List.isEmpty, List.length_cons, List.length_nil, Nat.reduceMul, Nat.reduceAdd, Nat.zero_add, Bool.and_true, Bool.and_false, Bool.true_and, Bool.false_and, Bool.not_true, Bool.not_false, cond_true, cond_false, List.append_nil, List.nil_append, List.cons_append]; exact w⟩
    · have e : [r0, r1, r2] = q ∧ r3 = r := by
        have := List.append_inj' (show [r0, r1, r2] ++ [r3] = q ++ [r] from hq) rfl
        exact ⟨this.1, by simpa using this.2⟩
      obtain ⟨rfl, rfl⟩ := e
      have w := bk446 N b p k hb hp hk n r0 r1 r2 r3 hn b0 hb0 (by rw [h1, h2, h3]; exact bk410060 n r0 r1 r2 r3 hd)
      exact ⟨r3, [r0, r1, r2], true, ho.1, by simp, by simp only [SD, hdK, rwK, List.isEmpty, List.length_cons, List.length_nil, Nat.reduceMul, Nat.reduceAdd, Nat.zero_add, Bool.and_true, Bool.and_false, Bool.true_and, Bool.false_and, Bool.not_true, Bool.not_false, cond_true, cond_false, List.append_nil, List.nil_append, List.cons_append]; exact w⟩
theorem oneD4s (N : Int) (b : List Int) (p k : Nat) (hb : Rdr b) (hp : p ≤ 800000) (hk : k ≤ 100) (n : List Say) (r0 r1 r2 r3 : List Say) (hd : deskOk ⟨n, [r0, r1, r2, r3]⟩ = true) (b0 : AC) (hb0 : b0 = lb x46.1 0) :
    ∃ n' R' z', deskOk ⟨n', R'⟩ = true ∧ R'.length ≤ 5 ∧ CL E [0, 1, 4, 5, 6] [0, 1, 4, 5] b0 ⟨mkT [(0, .mp 900 0 0 0), (1, .p (.int .i64 N)), (4, .mp 4 0 0 0), (5, .mp 5 0 0 0), (6, .p (.int .i64 (k + 1 : Nat)))], SD b p n [r0, r1, r2, r3] true⟩ = CL E [0, 1, 4, 5, 6] [0, 1, 4, 5] b0 ⟨mkT [(0, .mp 900 0 0 0), (1, .p (.int .i64 N)), (4, .mp 4 0 0 0), (5, .mp 5 0 0 0), (6, .p (.int .i64 (k : Nat)))], SD b (drD b p n.length).p n' R' z'⟩ := by
  have hn : n.length ≤ 1000 := by have := deskOk_len hd; omega
  cases h : deskDo ⟨n, [r0, r1, r2, r3]⟩ (drd b p n.length) with
  | none =>
    have w := st4s46 N b p k hb hp hk n r0 r1 r2 r3 hn b0 hb0 (no410060 n r0 r1 r2 r3 hd _ _ _ h)
    exact ⟨n, [r0, r1, r2, r3], true, hd, by simp, by simp only [SD, hdK, rwK, List.isEmpty, List.length_cons, List.length_nil, Nat.reduceMul, Nat.reduceAdd, Nat.zero_add, Bool.and_true, Bool.and_false, Bool.true_and, Bool.false_and, Bool.not_true, Bool.not_false, cond_true, cond_false, List.append_nil, List.nil_append, List.cons_append]; exact w⟩
  | some d' =>
    have ho := deskDo_ok hd h
    rcases deskDo_cases h with ⟨h1, h2, s, hs, hr, rfl⟩ | ⟨h1, h2, A, x, B, hA, h3, rfl⟩ | ⟨h1, h2, h3, q, r, hq, rfl⟩
    · have w := gr4s46 N b p k hb hp hk n r0 r1 r2 r3 hn b0 hb0 (n ++ [s]) (by rw [h1, h2]; exact sy410060 n r0 r1 r2 r3 hd _ s hs hr)
      exact ⟨n ++ [s], [r0, r1, r2, r3] ++ [n], false, ho.1, by simp, by simp only [SD, hdK, rwK, List.isEmpty, List.length_cons, List.length_nil, Nat.reduceMul, Nat.reduceAdd, Nat.zero_add, Bool.and_true, Bool.and_false, Bool.true_and, Bool.false_and, Bool.not_true, Bool.not_false, cond_true, cond_false, List.append_nil, List.nil_append, List.cons_append]; exact w⟩
    · have w := gr4s46 N b p k hb hp hk n r0 r1 r2 r3 hn b0 hb0 (A ++ B) (by rw [h1, h2, h3]; exact dr410060 n A B x r0 r1 r2 r3 hd hA)
      exact ⟨A ++ B, [r0, r1, r2, r3] ++ [n], false, ho.1, by simp, by simp only [SD, hdK, rwK, List.isEmpty, List.length_cons, List.length_nil, Nat.reduceMul, Nat.reduceAdd, Nat.zero_add, Bool.and_true, Bool.and_false, Bool.true_and, Bool.false_and, Bool.not_true, Bool.not_false, cond_true, cond_false, List.append_nil, List.nil_append, List.cons_append]; exact w⟩
    · have e : [r0, r1, r2] = q ∧ r3 = r := by
        have := List.append_inj' (show [r0, r1, r2] ++ [r3] = q ++ [r] from hq) rfl
        exact ⟨this.1, by simpa using this.2⟩
      obtain ⟨rfl, rfl⟩ := e
      have w := bk4s46 N b p k hb hp hk n r0 r1 r2 r3 hn b0 hb0 (by rw [h1, h2, h3]; exact bk410060 n r0 r1 r2 r3 hd)
      exact ⟨r3, [r0, r1, r2], true, ho.1, by simp, by simp only [SD, hdK, rwK, List.isEmpty, List.length_cons, List.length_nil, Nat.reduceMul, Nat.reduceAdd, Nat.zero_add, Bool.and_true, Bool.and_false, Bool.true_and, Bool.false_and, Bool.not_true, Bool.not_false, cond_true, cond_false, List.append_nil, List.nil_append, List.cons_append]; exact w⟩
theorem oneD5 (N : Int) (b : List Int) (p k : Nat) (hb : Rdr b) (hp : p ≤ 800000) (hk : k ≤ 100) (n : List Say) (r0 r1 r2 r3 r4 : List Say) (hd : deskOk ⟨n, [r0, r1, r2, r3, r4]⟩ = true) (b0 : AC) (hb0 : b0 = lb x46.1 0) :
    ∃ n' R' z', deskOk ⟨n', R'⟩ = true ∧ R'.length ≤ 6 ∧ CL E [0, 1, 4, 5, 6] [0, 1, 4, 5] b0 ⟨mkT [(0, .mp 900 0 0 0), (1, .p (.int .i64 N)), (4, .mp 4 0 0 0), (5, .mp 5 0 0 0), (6, .p (.int .i64 (k + 1 : Nat)))], SD b p n [r0, r1, r2, r3, r4] false⟩ = CL E [0, 1, 4, 5, 6] [0, 1, 4, 5] b0 ⟨mkT [(0, .mp 900 0 0 0), (1, .p (.int .i64 N)), (4, .mp 4 0 0 0), (5, .mp 5 0 0 0), (6, .p (.int .i64 (k : Nat)))], SD b (drD b p n.length).p n' R' z'⟩ := by
  have hn : n.length ≤ 1000 := by have := deskOk_len hd; omega
  cases h : deskDo ⟨n, [r0, r1, r2, r3, r4]⟩ (drd b p n.length) with
  | none =>
    have w := st546 N b p k hb hp hk n r0 r1 r2 r3 r4 hn b0 hb0 (no510060 n r0 r1 r2 r3 r4 hd _ _ _ h)
    exact ⟨n, [r0, r1, r2, r3, r4], false, hd, by simp, by simp only [SD, hdK, rwK, List.isEmpty, List.length_cons, List.length_nil, Nat.reduceMul, Nat.reduceAdd, Nat.zero_add, Bool.and_true, Bool.and_false, Bool.true_and, Bool.false_and, Bool.not_true, Bool.not_false, cond_true, cond_false, List.append_nil, List.nil_append, List.cons_append]; exact w⟩
  | some d' =>
    have ho := deskDo_ok hd h
    rcases deskDo_cases h with ⟨h1, h2, s, hs, hr, rfl⟩ | ⟨h1, h2, A, x, B, hA, h3, rfl⟩ | ⟨h1, h2, h3, q, r, hq, rfl⟩
    · have w := gr546 N b p k hb hp hk n r0 r1 r2 r3 r4 hn b0 hb0 (n ++ [s]) (by rw [h1, h2]; exact sy510060 n r0 r1 r2 r3 r4 hd _ s hs hr)
      exact ⟨n ++ [s], [r0, r1, r2, r3, r4] ++ [n], false, ho.1, by simp, by simp only [SD, hdK, rwK, List.isEmpty, List.length_cons, List.length_nil, Nat.reduceMul, Nat.reduceAdd, Nat.zero_add, Bool.and_true, Bool.and_false, Bool.true_and, Bool.false_and, Bool.not_true, Bool.not_false, cond_true, cond_false, List.append_nil, List.nil_append, List.cons_append]; exact w⟩
    · have w := gr546 N b p k hb hp hk n r0 r1 r2 r3 r4 hn b0 hb0 (A ++ B) (by rw [h1, h2, h3]; exact dr510060 n A B x r0 r1 r2 r3 r4 hd hA)
      exact ⟨A ++ B, [r0, r1, r2, r3, r4] ++ [n], false, ho.1, by simp, by simp only [SD, hdK, rwK, List.isEmpty, List.length_cons, List.length_nil, Nat.reduceMul, Nat.reduceAdd, Nat.zero_add, Bool.and_true, Bool.and_false, Bool.true_and, Bool.false_and, Bool.not_true, Bool.not_false, cond_true, cond_false, List.append_nil, List.nil_append, List.cons_append]; exact w⟩
    · have e : [r0, r1, r2, r3] = q ∧ r4 = r := by
        have := List.append_inj' (show [r0, r1, r2, r3] ++ [r4] = q ++ [r] from hq) rfl
        exact ⟨this.1, by simpa using this.2⟩
      obtain ⟨rfl, rfl⟩ := e
      have w := bk546 N b p k hb hp hk n r0 r1 r2 r3 r4 hn b0 hb0 (by rw [h1, h2, h3]; exact bk510060 n r0 r1 r2 r3 r4 hd)
      exact ⟨r4, [r0, r1, r2, r3], true, ho.1, by simp, by simp only [SD, hdK, rwK, List.isEmpty, List.length_cons, List.length_nil, Nat.reduceMul, Nat.reduceAdd, Nat.zero_add, Bool.and_true, Bool.and_false, Bool.true_and, Bool.false_and, Bool.not_true, Bool.not_false, cond_true, cond_false, List.append_nil, List.nil_append, List.cons_append]; exact w⟩
theorem oneD5s (N : Int) (b : List Int) (p k : Nat) (hb : Rdr b) (hp : p ≤ 800000) (hk : k ≤ 100) (n : List Say) (r0 r1 r2 r3 r4 : List Say) (hd : deskOk ⟨n, [r0, r1, r2, r3, r4]⟩ = true) (b0 : AC) (hb0 : b0 = lb x46.1 0) :
    ∃ n' R' z', deskOk ⟨n', R'⟩ = true ∧ R'.length ≤ 6 ∧ CL E [0, 1, 4, 5, 6] [0, 1, 4, 5] b0 ⟨mkT [(0, .mp 900 0 0 0), (1, .p (.int .i64 N)), (4, .mp 4 0 0 0), (5, .mp 5 0 0 0), (6, .p (.int .i64 (k + 1 : Nat)))], SD b p n [r0, r1, r2, r3, r4] true⟩ = CL E [0, 1, 4, 5, 6] [0, 1, 4, 5] b0 ⟨mkT [(0, .mp 900 0 0 0), (1, .p (.int .i64 N)), (4, .mp 4 0 0 0), (5, .mp 5 0 0 0), (6, .p (.int .i64 (k : Nat)))], SD b (drD b p n.length).p n' R' z'⟩ := by
  have hn : n.length ≤ 1000 := by have := deskOk_len hd; omega
  cases h : deskDo ⟨n, [r0, r1, r2, r3, r4]⟩ (drd b p n.length) with
  | none =>
    have w := st5s46 N b p k hb hp hk n r0 r1 r2 r3 r4 hn b0 hb0 (no510060 n r0 r1 r2 r3 r4 hd _ _ _ h)
    exact ⟨n, [r0, r1, r2, r3, r4], true, hd, by simp, by simp only [SD, hdK, rwK, List.isEmpty, List.length_cons, List.length_nil, Nat.reduceMul, Nat.reduceAdd, Nat.zero_add, Bool.and_true, Bool.and_false, Bool.true_and, Bool.false_and, Bool.not_true, Bool.not_false, cond_true, cond_false, List.append_nil, List.nil_append, List.cons_append]; exact w⟩
  | some d' =>
    have ho := deskDo_ok hd h
    rcases deskDo_cases h with ⟨h1, h2, s, hs, hr, rfl⟩ | ⟨h1, h2, A, x, B, hA, h3, rfl⟩ | ⟨h1, h2, h3, q, r, hq, rfl⟩
    · have w := gr5s46 N b p k hb hp hk n r0 r1 r2 r3 r4 hn b0 hb0 (n ++ [s]) (by rw [h1, h2]; exact sy510060 n r0 r1 r2 r3 r4 hd _ s hs hr)
      exact ⟨n ++ [s], [r0, r1, r2, r3, r4] ++ [n], false, ho.1, by simp, by simp only [SD, hdK, rwK, List.isEmpty, List.length_cons, List.length_nil, Nat.reduceMul, Nat.reduceAdd, Nat.zero_add, Bool.and_true, Bool.and_false, Bool.true_and, Bool.false_and, Bool.not_true, Bool.not_false, cond_true, cond_false, List.append_nil, List.nil_append, List.cons_append]; exact w⟩
    · have w := gr5s46 N b p k hb hp hk n r0 r1 r2 r3 r4 hn b0 hb0 (A ++ B) (by rw [h1, h2, h3]; exact dr510060 n A B x r0 r1 r2 r3 r4 hd hA)
      exact ⟨A ++ B, [r0, r1, r2, r3, r4] ++ [n], false, ho.1, by simp, by simp only [SD, hdK, rwK, List.isEmpty, List.length_cons, List.length_nil, Nat.reduceMul, Nat.reduceAdd, Nat.zero_add, Bool.and_true, Bool.and_false, Bool.true_and, Bool.false_and, Bool.not_true, Bool.not_false, cond_true, cond_false, List.append_nil, List.nil_append, List.cons_append]; exact w⟩
    · have e : [r0, r1, r2, r3] = q ∧ r4 = r := by
        have := List.append_inj' (show [r0, r1, r2, r3] ++ [r4] = q ++ [r] from hq) rfl
        exact ⟨this.1, by simpa using this.2⟩
      obtain ⟨rfl, rfl⟩ := e
      have w := bk5s46 N b p k hb hp hk n r0 r1 r2 r3 r4 hn b0 hb0 (by rw [h1, h2, h3]; exact bk510060 n r0 r1 r2 r3 r4 hd)
      exact ⟨r4, [r0, r1, r2, r3], true, ho.1, by simp, by simp only [SD, hdK, rwK, List.isEmpty, List.length_cons, List.length_nil, Nat.reduceMul, Nat.reduceAdd, Nat.zero_add, Bool.and_true, Bool.and_false, Bool.true_and, Bool.false_and, Bool.not_true, Bool.not_false, cond_true, cond_false, List.append_nil, List.nil_append, List.cons_append]; exact w⟩
theorem oneD (N : Int) (b : List Int) (p k : Nat) (hb : Rdr b) (hp : p ≤ 800000) (hk : k ≤ 100) (n : List Say) (R : List (List Say)) (z : Bool) (hR : R.length ≤ 5) (hd : deskOk ⟨n, R⟩ = true) (b0 : AC) (hb0 : b0 = lb x46.1 0) :
    ∃ n' R' z', deskOk ⟨n', R'⟩ = true ∧ R'.length ≤ R.length + 1 ∧ CL E [0, 1, 4, 5, 6] [0, 1, 4, 5] b0 ⟨mkT [(0, .mp 900 0 0 0), (1, .p (.int .i64 N)), (4, .mp 4 0 0 0), (5, .mp 5 0 0 0), (6, .p (.int .i64 (k + 1 : Nat)))], SD b p n R z⟩ = CL E [0, 1, 4, 5, 6] [0, 1, 4, 5] b0 ⟨mkT [(0, .mp 900 0 0 0), (1, .p (.int .i64 N)), (4, .mp 4 0 0 0), (5, .mp 5 0 0 0), (6, .p (.int .i64 (k : Nat)))], SD b (drD b p n.length).p n' R' z'⟩ := by
  cases R with
  | nil =>
    cases z with
    | false => exact oneD0 N b p k hb hp hk n hd b0 hb0
    | true => exact oneD0s N b p k hb hp hk n hd b0 hb0
  | cons r0 R =>
    cases R with
    | nil =>
      cases z with
      | false => exact oneD1 N b p k hb hp hk n r0 hd b0 hb0
      | true => exact oneD1s N b p k hb hp hk n r0 hd b0 hb0
    | cons r1 R =>
      cases R with
      | nil =>
        cases z with
        | false => exact oneD2 N b p k hb hp hk n r0 r1 hd b0 hb0
        | true => exact oneD2s N b p k hb hp hk n r0 r1 hd b0 hb0
      | cons r2 R =>
        cases R with
        | nil =>
          cases z with
          | false => exact oneD3 N b p k hb hp hk n r0 r1 r2 hd b0 hb0
          | true => exact oneD3s N b p k hb hp hk n r0 r1 r2 hd b0 hb0
        | cons r3 R =>
          cases R with
          | nil =>
            cases z with
            | false => exact oneD4 N b p k hb hp hk n r0 r1 r2 r3 hd b0 hb0
            | true => exact oneD4s N b p k hb hp hk n r0 r1 r2 r3 hd b0 hb0
          | cons r4 R =>
            cases R with
            | nil =>
              cases z with
              | false => exact oneD5 N b p k hb hp hk n r0 r1 r2 r3 r4 hd b0 hb0
              | true => exact oneD5s N b p k hb hp hk n r0 r1 r2 r3 r4 hd b0 hb0
            | cons r5 R =>
              exact absurd hR (by simp only [List.length_cons]; omega)
theorem endD (N : Int) (b : List Int) (p : Nat) (n : List Say) (R : List (List Say)) (z : Bool) (hR : R.length ≤ 6) (b0 : AC) (hb0 : b0 = lb x46.1 0) :
    CL E [0, 1, 4, 5, 6] [0, 1, 4, 5] b0 ⟨mkT [(0, .mp 900 0 0 0), (1, .p (.int .i64 N)), (4, .mp 4 0 0 0), (5, .mp 5 0 0 0), (6, .p (.int .i64 (0 : Nat)))], SD b p n R z⟩ = some (.ex 0, ⟨mkT [(0, .mp 900 0 0 0), (1, .p (.int .i64 N)), (4, .mp 4 0 0 0), (5, .mp 5 0 0 0)], SD b p n R z⟩) := by
  cases R with
  | nil =>
    cases z with
    | false => simp only [SD, hdK, rwK, List.isEmpty, List.length_cons, List.length_nil, Nat.reduceMul, Nat.reduceAdd, Nat.zero_add, Bool.and_true, Bool.and_false, Bool.true_and, Bool.false_and, Bool.not_true, Bool.not_false, cond_true, cond_false, List.append_nil, List.nil_append, List.cons_append]; exact en046 N b p n b0 hb0
    | true => simp only [SD, hdK, rwK, List.isEmpty, List.length_cons, List.length_nil, Nat.reduceMul, Nat.reduceAdd, Nat.zero_add, Bool.and_true, Bool.and_false, Bool.true_and, Bool.false_and, Bool.not_true, Bool.not_false, cond_true, cond_false, List.append_nil, List.nil_append, List.cons_append]; exact en0s46 N b p n b0 hb0
  | cons r0 R =>
    cases R with
    | nil =>
      cases z with
      | false => simp only [SD, hdK, rwK, List.isEmpty, List.length_cons, List.length_nil, Nat.reduceMul, Nat.reduceAdd, Nat.zero_add, Bool.and_true, Bool.and_false, Bool.true_and, Bool.false_and, Bool.not_true, Bool.not_false, cond_true, cond_false, List.append_nil, List.nil_append, List.cons_append]; exact en146 N b p n r0 b0 hb0
      | true => simp only [SD, hdK, rwK, List.isEmpty, List.length_cons, List.length_nil, Nat.reduceMul, Nat.reduceAdd, Nat.zero_add, Bool.and_true, Bool.and_false, Bool.true_and, Bool.false_and, Bool.not_true, Bool.not_false, cond_true, cond_false, List.append_nil, List.nil_append, List.cons_append]; exact en1s46 N b p n r0 b0 hb0
    | cons r1 R =>
      cases R with
      | nil =>
        cases z with
        | false => simp only [SD, hdK, rwK, List.isEmpty, List.length_cons, List.length_nil, Nat.reduceMul, Nat.reduceAdd, Nat.zero_add, Bool.and_true, Bool.and_false, Bool.true_and, Bool.false_and, Bool.not_true, Bool.not_false, cond_true, cond_false, List.append_nil, List.nil_append, List.cons_append]; exact en246 N b p n r0 r1 b0 hb0
        | true => simp only [SD, hdK, rwK, List.isEmpty, List.length_cons, List.length_nil, Nat.reduceMul, Nat.reduceAdd, Nat.zero_add, Bool.and_true, Bool.and_false, Bool.true_and, Bool.false_and, Bool.not_true, Bool.not_false, cond_true, cond_false, List.append_nil, List.nil_append, List.cons_append]; exact en2s46 N b p n r0 r1 b0 hb0
      | cons r2 R =>
        cases R with
        | nil =>
          cases z with
          | false => simp only [SD, hdK, rwK, List.isEmpty, List.length_cons, List.length_nil, Nat.reduceMul, Nat.reduceAdd, Nat.zero_add, Bool.and_true, Bool.and_false, Bool.true_and, Bool.false_and, Bool.not_true, Bool.not_false, cond_true, cond_false, List.append_nil, List.nil_append, List.cons_append]; exact en346 N b p n r0 r1 r2 b0 hb0
          | true => simp only [SD, hdK, rwK, List.isEmpty, List.length_cons, List.length_nil, Nat.reduceMul, Nat.reduceAdd, Nat.zero_add, Bool.and_true, Bool.and_false, Bool.true_and, Bool.false_and, Bool.not_true, Bool.not_false, cond_true, cond_false, List.append_nil, List.nil_append, List.cons_append]; exact en3s46 N b p n r0 r1 r2 b0 hb0
        | cons r3 R =>
          cases R with
          | nil =>
            cases z with
            | false => simp only [SD, hdK, rwK, List.isEmpty, List.length_cons, List.length_nil, Nat.reduceMul, Nat.reduceAdd, Nat.zero_add, Bool.and_true, Bool.and_false, Bool.true_and, Bool.false_and, Bool.not_true, Bool.not_false, cond_true, cond_false, List.append_nil, List.nil_append, List.cons_append]; exact en446 N b p n r0 r1 r2 r3 b0 hb0
            | true => simp only [SD, hdK, rwK, List.isEmpty, List.length_cons, List.length_nil, Nat.reduceMul, Nat.reduceAdd, Nat.zero_add, Bool.and_true, Bool.and_false, Bool.true_and, Bool.false_and, Bool.not_true, Bool.not_false, cond_true, cond_false, List.append_nil, List.nil_append, List.cons_append]; exact en4s46 N b p n r0 r1 r2 r3 b0 hb0
          | cons r4 R =>
            cases R with
            | nil =>
              cases z with
              | false => simp only [SD, hdK, rwK, List.isEmpty, List.length_cons, List.length_nil, Nat.reduceMul, Nat.reduceAdd, Nat.zero_add, Bool.and_true, Bool.and_false, Bool.true_and, Bool.false_and, Bool.not_true, Bool.not_false, cond_true, cond_false, List.append_nil, List.nil_append, List.cons_append]; exact en546 N b p n r0 r1 r2 r3 r4 b0 hb0
              | true => simp only [SD, hdK, rwK, List.isEmpty, List.length_cons, List.length_nil, Nat.reduceMul, Nat.reduceAdd, Nat.zero_add, Bool.and_true, Bool.and_false, Bool.true_and, Bool.false_and, Bool.not_true, Bool.not_false, cond_true, cond_false, List.append_nil, List.nil_append, List.cons_append]; exact en5s46 N b p n r0 r1 r2 r3 r4 b0 hb0
            | cons r5 R =>
              cases R with
              | nil =>
                cases z with
                | false => simp only [SD, hdK, rwK, List.isEmpty, List.length_cons, List.length_nil, Nat.reduceMul, Nat.reduceAdd, Nat.zero_add, Bool.and_true, Bool.and_false, Bool.true_and, Bool.false_and, Bool.not_true, Bool.not_false, cond_true, cond_false, List.append_nil, List.nil_append, List.cons_append]; exact en646 N b p n r0 r1 r2 r3 r4 r5 b0 hb0
                | true => simp only [SD, hdK, rwK, List.isEmpty, List.length_cons, List.length_nil, Nat.reduceMul, Nat.reduceAdd, Nat.zero_add, Bool.and_true, Bool.and_false, Bool.true_and, Bool.false_and, Bool.not_true, Bool.not_false, cond_true, cond_false, List.append_nil, List.nil_append, List.cons_append]; exact en6s46 N b p n r0 r1 r2 r3 r4 r5 b0 hb0
              | cons r6 R =>
                exact absurd hR (by simp only [List.length_cons]; omega)
theorem allD (N : Int) (b : List Int) (hb : Rdr b) (b0 : AC) (hb0 : b0 = lb x46.1 0) : ∀ (k p : Nat) (n : List Say) (R : List (List Say)) (z : Bool), p + 10 * k ≤ 700000 → k ≤ 6 → R.length + k ≤ 6 → deskOk ⟨n, R⟩ = true →
    ∃ p' n' R' z', p ≤ p' ∧ p' ≤ p + 10 * k ∧ R'.length ≤ 6 ∧ deskOk ⟨n', R'⟩ = true ∧ CL E [0, 1, 4, 5, 6] [0, 1, 4, 5] b0 ⟨mkT [(0, .mp 900 0 0 0), (1, .p (.int .i64 N)), (4, .mp 4 0 0 0), (5, .mp 5 0 0 0), (6, .p (.int .i64 (k : Nat)))], SD b p n R z⟩ = some (.ex 0, ⟨mkT [(0, .mp 900 0 0 0), (1, .p (.int .i64 N)), (4, .mp 4 0 0 0), (5, .mp 5 0 0 0)], SD b p' n' R' z'⟩)
  | 0, p, n, R, z, hp, hk, hR, hd => ⟨p, n, R, z, by omega, by omega, by omega, hd, endD N b p n R z (by omega) b0 hb0⟩
  | k + 1, p, n, R, z, hp, hk, hR, hd => by
    obtain ⟨n1, R1, z1, hd1, hl1, h1⟩ := oneD N b p k hb (by omega) (by omega) n R z (by omega) hd b0 hb0
    have bd := drD_bd (p := p) (L := n.length) hb (by omega) (by have := deskOk_len hd; omega)
    obtain ⟨p', n', R', z', a1, a2, a3, a4, a5⟩ := allD N b hb b0 hb0 k (drD b p n.length).p n1 R1 z1 (by omega) (by omega) (by omega) hd1
    exact ⟨p', n', R', z', by omega, by omega, a3, a4, h1.trans a5⟩
end Go.Proofs.YtjlebmnlphjjoaaGreatDoor.Fx
